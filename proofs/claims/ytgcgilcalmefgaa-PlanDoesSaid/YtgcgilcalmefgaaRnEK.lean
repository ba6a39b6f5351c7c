/- Walks: ring.key: a change of a key, in a state of one's own: every way. -/
import Derived.Test.YtgcgilcalmefgaaRnE
namespace Go.Proofs.Ytgcgilcalmefgaa
open Go Go.RowKit Go.Sort
set_option maxRecDepth 100000
set_option linter.unusedSimpArgs false
set_option linter.unusedVariables false
set_option maxHeartbeats 4000000
theorem fld_ob : ∀ {ob base : Nat} {w : World} {s : Rn.S} {ps : List (Rn.T × Value)} {u : Value}, StI ob base w s ps u → u.ownBlock ≠ some ob := fun h e => by
  rcases (List.pairwise_cons.1 h.2.2.2.2.1).1 _ (List.mem_cons_self ..) with h | h
  · cases h
  · exact h e.symm
theorem keyV_one (ks : List Rn.K) : ∀ u ∈ ks.flatMap keyV, u.oneCell' = true := fun u hu => by
  rw [List.mem_flatMap] at hu
  obtain ⟨x, -, hx⟩ := hu
  simp [keyV] at hx
  rcases hx with rfl | rfl <;> rfl
theorem pkey_none2 (s : Rn.S) (ten txt : ByteArray) (num epoch : Int) (ob base : Nat) (ps : List (Rn.T × Value)) (u : Value) (w : World) (h : StI ob base w s ps u) (h16 : s.tens.length ≤ 16) (hris : Rn.rises Rn.ltT s.tens = true) (hh : Rn.hasT s.tens ten = false) :
    Calls Try.prog 57 #[.pointer (some ⟨ob, 0, none⟩), .agg #[.int .i64 2, .string ten, .int .i64 num, .int .i64 epoch, .string txt]] w (RetDo ob base (.bad 6) w) := by
  obtain ⟨W0, hW0⟩ : ∃ W0, W0 = w.alloc (.cells #[.int .i64 2, .string ten, .int .i64 num, .int .i64 epoch, .string txt] 26) := ⟨_, rfl⟩
  have hobw := h.2.1.lt
  have hb0 : Below w.heap.size w W0 := by rw [hW0]; exact (Below.refl _ _).alloc (Nat.le_refl _) _
  have hs0 := stI_keep h hb0
  have hev : Blk W0 w.heap.size #[.int .i64 2, .string ten, .int .i64 num, .int .i64 epoch, .string txt] 26 := by rw [hW0]; exact Blk.new w _ _
  obtain ⟨A, c, rfl, hfit, hT⟩ := stI_tens hs0
  have hpl := stI_len hs0
  have HB0 := hid_mk (show Below base w W0 from hb0.mono (by have := h.2.2.2.2.2; omega))
  have HC : Hid (∀ d os, Calls Try.prog 63 #[.slice A s.tens.length c, .string ten, .func (.func 64) #[] #[]] (grow (redrawn W0 d) os) (fun e w'' => e = .returned (.tuple #[.int .i64 ((Rn.spotT s.tens ten : Nat) : Int), .bool false]) ∧ ∃ p : Regrown, w'' = grow (redrawn W0 p.d) p.os)) := hid_mk (fun d os => by
    have hb := below_regrown W0 d os
    have h1 := binT_any s.tens A c ten (fun b => base ≤ b ∧ b < W0.heap.size) (grow (redrawn W0 d) os) (fun b hb' => Nat.lt_of_lt_of_le hb'.2 hb.size) (by omega) (tensAt_keep hT (fun b h => h) (kept_below hb (fun b h => h.2))) hris
    rw [hh] at h1
    exact regrown_call h1)
  generalize Rn.spotT s.tens ten = i at *
  have z0 : ∀ d os, (grow (redrawn W0 d) os).cell? ⟨ob, 0, none⟩ = some (.slice A s.tens.length c) := fun d os => cell_regrown (hs0.2.1.cell 0) d os
  have z1 : ∀ d os, (grow (redrawn W0 d) os).cell? ⟨w.heap.size, 1, none⟩ = some (.string ten) := fun d os => cell_regrown (hev.cell 1) d os
  have HS := hid_mk hs0
  have HW0 := hid_mk hW0
  clear hT hfit hs0 hev h hb0 hW0 hpl
  go_enter Try.func57, Try.ntmps57
  go_wp2
  rw [← HW0.out]
  (refine wp_region_quiet_below (by kernel_rfl) (by kernel_rfl) ?_; (repeat (first | go_big_quiet_step ((go_at_call 63; exact HC.out _ _)) | quiet_step ((go_at_call 63; exact HC.out _ _)))); refine wpQuiet_nil ?_; intro _ hw'; obtain ⟨⟨nq, osq⟩, hw''⟩ := hw'; subst hw'')
  have hvb := below_regrown W0 nq osq
  have HBV := hid_mk (HB0.out.trans (hvb.mono (by have := HB0.out.size; have := stI_base HS.out; omega)))
  clear hvb z0 z1 HC HS HB0
  generalize grow (redrawn W0 nq) osq = V at *
  go_wp2
  go_ret
  exact ⟨rfl, HBV.out, fun t h => by cases h⟩
theorem pkey_none3 (s : Rn.S) (ten txt : ByteArray) (num epoch : Int) (ob base : Nat) (ps : List (Rn.T × Value)) (u : Value) (w : World) (h : StI ob base w s ps u) (h16 : s.tens.length ≤ 16) (hris : Rn.rises Rn.ltT s.tens = true) (hh : Rn.hasT s.tens ten = false) :
    Calls Try.prog 57 #[.pointer (some ⟨ob, 0, none⟩), .agg #[.int .i64 3, .string ten, .int .i64 num, .int .i64 epoch, .string txt]] w (RetDo ob base (.bad 6) w) := by
  obtain ⟨W0, hW0⟩ : ∃ W0, W0 = w.alloc (.cells #[.int .i64 3, .string ten, .int .i64 num, .int .i64 epoch, .string txt] 26) := ⟨_, rfl⟩
  have hobw := h.2.1.lt
  have hb0 : Below w.heap.size w W0 := by rw [hW0]; exact (Below.refl _ _).alloc (Nat.le_refl _) _
  have hs0 := stI_keep h hb0
  have hev : Blk W0 w.heap.size #[.int .i64 3, .string ten, .int .i64 num, .int .i64 epoch, .string txt] 26 := by rw [hW0]; exact Blk.new w _ _
  obtain ⟨A, c, rfl, hfit, hT⟩ := stI_tens hs0
  have hpl := stI_len hs0
  have HB0 := hid_mk (show Below base w W0 from hb0.mono (by have := h.2.2.2.2.2; omega))
  have HC : Hid (∀ d os, Calls Try.prog 63 #[.slice A s.tens.length c, .string ten, .func (.func 64) #[] #[]] (grow (redrawn W0 d) os) (fun e w'' => e = .returned (.tuple #[.int .i64 ((Rn.spotT s.tens ten : Nat) : Int), .bool false]) ∧ ∃ p : Regrown, w'' = grow (redrawn W0 p.d) p.os)) := hid_mk (fun d os => by
    have hb := below_regrown W0 d os
    have h1 := binT_any s.tens A c ten (fun b => base ≤ b ∧ b < W0.heap.size) (grow (redrawn W0 d) os) (fun b hb' => Nat.lt_of_lt_of_le hb'.2 hb.size) (by omega) (tensAt_keep hT (fun b h => h) (kept_below hb (fun b h => h.2))) hris
    rw [hh] at h1
    exact regrown_call h1)
  generalize Rn.spotT s.tens ten = i at *
  have z0 : ∀ d os, (grow (redrawn W0 d) os).cell? ⟨ob, 0, none⟩ = some (.slice A s.tens.length c) := fun d os => cell_regrown (hs0.2.1.cell 0) d os
  have z1 : ∀ d os, (grow (redrawn W0 d) os).cell? ⟨w.heap.size, 1, none⟩ = some (.string ten) := fun d os => cell_regrown (hev.cell 1) d os
  have HS := hid_mk hs0
  have HW0 := hid_mk hW0
  clear hT hfit hs0 hev h hb0 hW0 hpl
  go_enter Try.func57, Try.ntmps57
  go_wp2
  rw [← HW0.out]
  (refine wp_region_quiet_below (by kernel_rfl) (by kernel_rfl) ?_; (repeat (first | go_big_quiet_step ((go_at_call 63; exact HC.out _ _)) | quiet_step ((go_at_call 63; exact HC.out _ _)))); refine wpQuiet_nil ?_; intro _ hw'; obtain ⟨⟨nq, osq⟩, hw''⟩ := hw'; subst hw'')
  have hvb := below_regrown W0 nq osq
  have HBV := hid_mk (HB0.out.trans (hvb.mono (by have := HB0.out.size; have := stI_base HS.out; omega)))
  clear hvb z0 z1 HC HS HB0
  generalize grow (redrawn W0 nq) osq = V at *
  go_wp2
  go_ret
  exact ⟨rfl, HBV.out, fun t h => by cases h⟩
theorem pkey_drop_none (s : Rn.S) (ten txt : ByteArray) (num epoch : Int) (ob base : Nat) (ps : List (Rn.T × Value)) (u : Value) (w : World) (h : StI ob base w s ps u) (h16 : s.tens.length ≤ 16) (hris : Rn.rises Rn.ltT s.tens = true) (hh : Rn.hasT s.tens ten = true) (htx : txt.size ≤ maxLen)
    (i : Nat) (hsp : Rn.spotT s.tens ten = i) (hi : i < s.tens.length) (tn : ByteArray) (te tx : Int) (tk : List Rn.K) (ht : s.tens[i] = ⟨tn, te, tx, tk⟩) (hk8 : tk.length ≤ 8) (hkr : Rn.rises Rn.ltK tk = true) (j : Nat) (hsk : Rn.spotK tk num = j) (hhk : Rn.hasK tk num = false)  :
    Calls Try.prog 57 #[.pointer (some ⟨ob, 0, none⟩), .agg #[.int .i64 3, .string ten, .int .i64 num, .int .i64 epoch, .string txt]] w (RetDo ob base (.bad 6) w) := by
  obtain ⟨W0, hW0⟩ : ∃ W0, W0 = w.alloc (.cells #[.int .i64 3, .string ten, .int .i64 num, .int .i64 epoch, .string txt] 26) := ⟨_, rfl⟩
  have hobw := h.2.1.lt
  have hb0 : Below w.heap.size w W0 := by rw [hW0]; exact (Below.refl _ _).alloc (Nat.le_refl _) _
  have hs0 := stI_keep h hb0
  have hev : Blk W0 w.heap.size #[.int .i64 3, .string ten, .int .i64 num, .int .i64 epoch, .string txt] 26 := by rw [hW0]; exact Blk.new w _ _
  obtain ⟨A, c, rfl, hfit, hT⟩ := stI_tens hs0
  have hpl := stI_len hs0
  have HB0 := hid_mk (show Below base w W0 from hb0.mono (by have := h.2.2.2.2.2; omega))
  have HNW0 := hid_mk (fun (p : Rn.T × Value) (hp : p ∈ ps) => (show p.2.ownBlock ≠ some w.heap.size from fun e => by have := ((h.2.2.2.1 p hp).1.lt _ e).2; omega))
  obtain ⟨g, c', e, hbg, hgw, hgo⟩ := stI_row h (by omega)
  rw [hpl] at e
  obtain ⟨rfl, rfl⟩ : A = some ⟨g, 0, none⟩ ∧ c = c' := by simpa using e
  obtain ⟨hip, hpi⟩ := stI_at hs0 hi
  rw [ht] at hpi
  have HC : Hid (∀ d os, Calls Try.prog 63 #[.slice (some ⟨g, 0, none⟩) s.tens.length c, .string ten, .func (.func 64) #[] #[]] (grow (redrawn W0 d) os) (fun e w'' => e = .returned (.tuple #[.int .i64 (i : Int), .bool true]) ∧ ∃ p : Regrown, w'' = grow (redrawn W0 p.d) p.os)) := hid_mk (fun d os => by
    have hb := below_regrown W0 d os
    have h1 := binT_any s.tens (some ⟨g, 0, none⟩) c ten (fun b => base ≤ b ∧ b < W0.heap.size) (grow (redrawn W0 d) os) (fun b hb' => Nat.lt_of_lt_of_le hb'.2 hb.size) (by omega) (tensAt_keep hT (fun b h => h) (kept_below hb (fun b h => h.2))) hris
    rw [hh, hsp] at h1
    exact regrown_call h1)
  have z0 : ∀ d os, (grow (redrawn W0 d) os).cell? ⟨ob, 0, none⟩ = some (.slice (some ⟨g, 0, none⟩) s.tens.length c) := fun d os => cell_regrown (hs0.2.1.cell 0) d os
  have z1 : ∀ d os, (grow (redrawn W0 d) os).cell? ⟨w.heap.size, 1, none⟩ = some (.string ten) := fun d os => cell_regrown (hev.cell 1) d os
  have HS := hid_mk hs0
  have HE := hid_mk hev
  have hil : (i : Int) < (s.tens.length : Int) := by omega
  have HPI := hid_mk hpi
  have HPL := hid_mk hpl
  rw [← hpl] at HS
  have HW0 := hid_mk hW0
  have HHK := hid_mk hhk
  have HSK := hid_mk hsk
  have HKR := hid_mk hkr
  have hgne : Hid (w.heap.size ≠ g) := hid_mk (fun e => by omega)
  clear hT hfit hs0 hev h hb0 hW0 hpl hpi ht hsp hhk hsk hkr
  go_enter Try.func57, Try.ntmps57
  go_wp2
  rw [← HW0.out]
  (refine wp_region_quiet_below (by kernel_rfl) (by kernel_rfl) ?_; (repeat (first | go_big_quiet_step ((go_at_call 63; exact HC.out _ _)) | quiet_step ((go_at_call 63; exact HC.out _ _)))); refine wpQuiet_nil ?_; intro _ hw'; obtain ⟨⟨nq, osq⟩, hw''⟩ := hw'; subst hw'')
  have hvb := below_regrown W0 nq osq
  have HBV := hid_mk (HB0.out.trans (hvb.mono (by have := HB0.out.size; have := stI_base HS.out; omega)))
  have HSV := hid_mk (stI_keep HS.out hvb)
  have HEV := hid_mk (HE.out.call hvb)
  clear hvb z0 z1 HC HS HE HB0
  generalize grow (redrawn W0 nq) osq = V at *
  have hq0 : V.cell? ⟨ob, 0, none⟩ = some (.slice (some ⟨g, 0, none⟩) s.tens.length c) := by rw [← HPL.out]; exact HSV.out.2.1.cell 0
  obtain ⟨B, d, hpv, hfb, hkb⟩ := ownT_keys (HSV.out.2.2.2.1 _ (List.getElem_mem hip))
  rw [HPI.out] at hpv hfb hkb
  dsimp only at hpv hfb hkb
  have hk3 : V.cell? ⟨g, i * 4 + 3, none⟩ = some (.slice B tk.length d) := by rw [stI_cell HSV.out hip (by decide)]; unfold rowT; rw [hpv]; rfl
  have HPV := hid_mk hpv
  have HNW : Hid ((Value.slice B tk.length d).ownBlock ≠ some w.heap.size) := hid_mk (by rw [← hpv]; exact HNW0.out _ (List.getElem_mem hip))
  have HC : Hid (∀ (x : Nat) os, Calls Try.prog 66 #[.slice B tk.length d, .int .i64 num, .func (.func 67) #[] #[]] (grow (redrawn V x) os) (fun e w'' => e = .returned (.tuple #[.int .i64 (j : Int), .bool false]) ∧ ∃ p : Regrown, w'' = grow (redrawn V p.d) p.os)) := hid_mk (fun x os => by
    have hb := below_regrown V x os
    have h1 := binK_any tk B d num (fun b => base ≤ b ∧ b < V.heap.size) (grow (redrawn V x) os) (fun b hb' => Nat.lt_of_lt_of_le hb'.2 hb.size) (by omega) (keysAt_keep hkb (fun b h => h) (kept_below hb (fun b h => h.2))) HKR.out
    rw [HHK.out, HSK.out] at h1
    exact regrown_call h1)
  clear hpv hfb hkb
  have z3 : ∀ x os, (grow (redrawn V x) os).cell? ⟨g, i * 4 + 3, none⟩ = some (.slice B tk.length d) := fun x os => cell_regrown hk3 x os
  have z2 : ∀ x os, (grow (redrawn V x) os).cell? ⟨w.heap.size, 2, none⟩ = some (.int .i64 num) := fun x os => cell_regrown (HEV.out.cell 2) x os
  clear hk3
  go_wp2
  (refine wp_region_quiet_below (by kernel_rfl) (by kernel_rfl) ?_; (repeat (first | go_big_quiet_step ((go_at_call 66; exact HC.out _ _)) | quiet_step ((go_at_call 66; exact HC.out _ _)))); refine wpQuiet_nil ?_; intro _ hw'; obtain ⟨⟨nq, osq⟩, hw''⟩ := hw'; subst hw'')
  have hvb := below_regrown V nq osq
  have HBX := hid_mk (HBV.out.trans (hvb.mono (by have := HBV.out.size; have := stI_base HSV.out; omega)))
  have HSX := hid_mk (stI_keep HSV.out hvb)
  have HEX := hid_mk (HEV.out.call hvb)
  clear hvb z2 z3 HC HSV HEV HBV hq0
  generalize grow (redrawn V nq) osq = X at *
  have hk2 : X.cell? ⟨g, i * 4 + 2, none⟩ = some (.int .i64 tx) := by rw [stI_cell HSX.out hip (by decide)]; unfold rowT; rw [HPI.out]; rfl
  have hk3 : X.cell? ⟨g, i * 4 + 3, none⟩ = some (.slice B tk.length d) := by rw [stI_cell HSX.out hip (by decide)]; unfold rowT; rw [HPV.out]; rfl
  have he0 : X.cell? ⟨w.heap.size, 0, none⟩ = some (.int .i64 3) := HEX.out.cell 0
  have he2 : X.cell? ⟨w.heap.size, 2, none⟩ = some (.int .i64 num) := HEX.out.cell 2
  have he4 : X.cell? ⟨w.heap.size, 4, none⟩ = some (.string txt) := HEX.out.cell 4
  have hkf := stI_frozen HSX.out
  go_wp2
  go_ret
  exact ⟨rfl, HBX.out, fun t h => by cases h⟩
theorem pkey_drop (s : Rn.S) (ten txt : ByteArray) (num epoch : Int) (ob base : Nat) (ps : List (Rn.T × Value)) (u : Value) (w : World) (h : StI ob base w s ps u) (h16 : s.tens.length ≤ 16) (hris : Rn.rises Rn.ltT s.tens = true) (hh : Rn.hasT s.tens ten = true) (htx : txt.size ≤ maxLen)
    (i : Nat) (hsp : Rn.spotT s.tens ten = i) (hi : i < s.tens.length) (tn : ByteArray) (te tx : Int) (tk : List Rn.K) (ht : s.tens[i] = ⟨tn, te, tx, tk⟩) (hk8 : tk.length ≤ 8) (hkr : Rn.rises Rn.ltK tk = true) (j : Nat) (hsk : Rn.spotK tk num = j) (hhk : Rn.hasK tk num = true) (hjl : j < tk.length) :
    Calls Try.prog 57 #[.pointer (some ⟨ob, 0, none⟩), .agg #[.int .i64 3, .string ten, .int .i64 num, .int .i64 epoch, .string txt]] w (RetDo ob base (.ok ⟨s.tens.set i ⟨tn, te, tx, Rn.del tk j⟩, s.serial⟩) w) := by
  obtain ⟨W0, hW0⟩ : ∃ W0, W0 = w.alloc (.cells #[.int .i64 3, .string ten, .int .i64 num, .int .i64 epoch, .string txt] 26) := ⟨_, rfl⟩
  have hobw := h.2.1.lt
  have hb0 : Below w.heap.size w W0 := by rw [hW0]; exact (Below.refl _ _).alloc (Nat.le_refl _) _
  have hs0 := stI_keep h hb0
  have hev : Blk W0 w.heap.size #[.int .i64 3, .string ten, .int .i64 num, .int .i64 epoch, .string txt] 26 := by rw [hW0]; exact Blk.new w _ _
  obtain ⟨A, c, rfl, hfit, hT⟩ := stI_tens hs0
  have hpl := stI_len hs0
  have HB0 := hid_mk (show Below base w W0 from hb0.mono (by have := h.2.2.2.2.2; omega))
  have HNW0 := hid_mk (fun (p : Rn.T × Value) (hp : p ∈ ps) => (show p.2.ownBlock ≠ some w.heap.size from fun e => by have := ((h.2.2.2.1 p hp).1.lt _ e).2; omega))
  obtain ⟨g, c', e, hbg, hgw, hgo⟩ := stI_row h (by omega)
  rw [hpl] at e
  obtain ⟨rfl, rfl⟩ : A = some ⟨g, 0, none⟩ ∧ c = c' := by simpa using e
  obtain ⟨hip, hpi⟩ := stI_at hs0 hi
  rw [ht] at hpi
  have HC : Hid (∀ d os, Calls Try.prog 63 #[.slice (some ⟨g, 0, none⟩) s.tens.length c, .string ten, .func (.func 64) #[] #[]] (grow (redrawn W0 d) os) (fun e w'' => e = .returned (.tuple #[.int .i64 (i : Int), .bool true]) ∧ ∃ p : Regrown, w'' = grow (redrawn W0 p.d) p.os)) := hid_mk (fun d os => by
    have hb := below_regrown W0 d os
    have h1 := binT_any s.tens (some ⟨g, 0, none⟩) c ten (fun b => base ≤ b ∧ b < W0.heap.size) (grow (redrawn W0 d) os) (fun b hb' => Nat.lt_of_lt_of_le hb'.2 hb.size) (by omega) (tensAt_keep hT (fun b h => h) (kept_below hb (fun b h => h.2))) hris
    rw [hh, hsp] at h1
    exact regrown_call h1)
  have z0 : ∀ d os, (grow (redrawn W0 d) os).cell? ⟨ob, 0, none⟩ = some (.slice (some ⟨g, 0, none⟩) s.tens.length c) := fun d os => cell_regrown (hs0.2.1.cell 0) d os
  have z1 : ∀ d os, (grow (redrawn W0 d) os).cell? ⟨w.heap.size, 1, none⟩ = some (.string ten) := fun d os => cell_regrown (hev.cell 1) d os
  have HS := hid_mk hs0
  have HE := hid_mk hev
  have hil : (i : Int) < (s.tens.length : Int) := by omega
  have HPI := hid_mk hpi
  have HPL := hid_mk hpl
  rw [← hpl] at HS
  have HW0 := hid_mk hW0
  have HHK := hid_mk hhk
  have HSK := hid_mk hsk
  have HKR := hid_mk hkr
  have hgne : Hid (w.heap.size ≠ g) := hid_mk (fun e => by omega)
  clear hT hfit hs0 hev h hb0 hW0 hpl hpi ht hsp hhk hsk hkr
  go_enter Try.func57, Try.ntmps57
  go_wp2
  rw [← HW0.out]
  (refine wp_region_quiet_below (by kernel_rfl) (by kernel_rfl) ?_; (repeat (first | go_big_quiet_step ((go_at_call 63; exact HC.out _ _)) | quiet_step ((go_at_call 63; exact HC.out _ _)))); refine wpQuiet_nil ?_; intro _ hw'; obtain ⟨⟨nq, osq⟩, hw''⟩ := hw'; subst hw'')
  have hvb := below_regrown W0 nq osq
  have HBV := hid_mk (HB0.out.trans (hvb.mono (by have := HB0.out.size; have := stI_base HS.out; omega)))
  have HSV := hid_mk (stI_keep HS.out hvb)
  have HEV := hid_mk (HE.out.call hvb)
  clear hvb z0 z1 HC HS HE HB0
  generalize grow (redrawn W0 nq) osq = V at *
  have hq0 : V.cell? ⟨ob, 0, none⟩ = some (.slice (some ⟨g, 0, none⟩) s.tens.length c) := by rw [← HPL.out]; exact HSV.out.2.1.cell 0
  obtain ⟨B, d, hpv, hfb, hkb⟩ := ownT_keys (HSV.out.2.2.2.1 _ (List.getElem_mem hip))
  rw [HPI.out] at hpv hfb hkb
  dsimp only at hpv hfb hkb
  have hk3 : V.cell? ⟨g, i * 4 + 3, none⟩ = some (.slice B tk.length d) := by rw [stI_cell HSV.out hip (by decide)]; unfold rowT; rw [hpv]; rfl
  have HPV := hid_mk hpv
  have HNW : Hid ((Value.slice B tk.length d).ownBlock ≠ some w.heap.size) := hid_mk (by rw [← hpv]; exact HNW0.out _ (List.getElem_mem hip))
  have HC : Hid (∀ (x : Nat) os, Calls Try.prog 66 #[.slice B tk.length d, .int .i64 num, .func (.func 67) #[] #[]] (grow (redrawn V x) os) (fun e w'' => e = .returned (.tuple #[.int .i64 (j : Int), .bool true]) ∧ ∃ p : Regrown, w'' = grow (redrawn V p.d) p.os)) := hid_mk (fun x os => by
    have hb := below_regrown V x os
    have h1 := binK_any tk B d num (fun b => base ≤ b ∧ b < V.heap.size) (grow (redrawn V x) os) (fun b hb' => Nat.lt_of_lt_of_le hb'.2 hb.size) (by omega) (keysAt_keep hkb (fun b h => h) (kept_below hb (fun b h => h.2))) HKR.out
    rw [HHK.out, HSK.out] at h1
    exact regrown_call h1)
  clear hpv hfb hkb
  have z3 : ∀ x os, (grow (redrawn V x) os).cell? ⟨g, i * 4 + 3, none⟩ = some (.slice B tk.length d) := fun x os => cell_regrown hk3 x os
  have z2 : ∀ x os, (grow (redrawn V x) os).cell? ⟨w.heap.size, 2, none⟩ = some (.int .i64 num) := fun x os => cell_regrown (HEV.out.cell 2) x os
  clear hk3
  go_wp2
  (refine wp_region_quiet_below (by kernel_rfl) (by kernel_rfl) ?_; (repeat (first | go_big_quiet_step ((go_at_call 66; exact HC.out _ _)) | quiet_step ((go_at_call 66; exact HC.out _ _)))); refine wpQuiet_nil ?_; intro _ hw'; obtain ⟨⟨nq, osq⟩, hw''⟩ := hw'; subst hw'')
  have hvb := below_regrown V nq osq
  have HBX := hid_mk (HBV.out.trans (hvb.mono (by have := HBV.out.size; have := stI_base HSV.out; omega)))
  have HSX := hid_mk (stI_keep HSV.out hvb)
  have HEX := hid_mk (HEV.out.call hvb)
  clear hvb z2 z3 HC HSV HEV HBV hq0
  generalize grow (redrawn V nq) osq = X at *
  have hk2 : X.cell? ⟨g, i * 4 + 2, none⟩ = some (.int .i64 tx) := by rw [stI_cell HSX.out hip (by decide)]; unfold rowT; rw [HPI.out]; rfl
  have hk3 : X.cell? ⟨g, i * 4 + 3, none⟩ = some (.slice B tk.length d) := by rw [stI_cell HSX.out hip (by decide)]; unfold rowT; rw [HPV.out]; rfl
  have he0 : X.cell? ⟨w.heap.size, 0, none⟩ = some (.int .i64 3) := HEX.out.cell 0
  have he2 : X.cell? ⟨w.heap.size, 2, none⟩ = some (.int .i64 num) := HEX.out.cell 2
  have he4 : X.cell? ⟨w.heap.size, 4, none⟩ = some (.string txt) := HEX.out.cell 4
  have hkf := stI_frozen HSX.out
  have hw1 : IntKind.i64.wrap ((j : Int) + 1) = (j : Int) + 1 := by rw [IntKind.wrap_i64]; omega
  have howt := HSX.out.2.2.2.1 _ (List.getElem_mem hip)
  obtain ⟨hown, hnm, htxs⟩ := howt
  rw [HPI.out, HPV.out] at hown
  rw [HPI.out] at hnm htxs
  dsimp only at hown hnm htxs
  obtain ⟨kg, hB⟩ : ∃ kg, B = some ⟨kg, 0, none⟩ := by
    rcases hown.2 with ⟨e, h0⟩ | ⟨kg, cap, cur, e, -⟩
    · omega
    · injection e with e1 e2; exact ⟨kg, e1⟩
  subst hB
  have HCALL := hid_mk (delK_any kg tk.length d j base (tk.flatMap keyV) X hown hjl (by omega) (keyV_one tk))
  have HTX := hid_mk htxs
  have HNM := hid_mk hnm
  clear hown htxs hnm
  go_wp2_with fail
  refine HCALL.out.mono ?_
  rintro e w1 ⟨rfl, hown, hgr⟩
  have hlen : (Rn.del tk j).length = tk.length - 1 := by unfold Rn.del; simp; omega
  rw [flat_del keyV_len, ← hlen] at hown
  have HK := hid_mk (stI_keys (t := ⟨tn, te, tx, Rn.del tk j⟩) HSX.out hip (by have := stI_base HSX.out; omega) (by rw [HPI.out]) (by rw [HPI.out]) (by rw [HPI.out]) (fun k hk => HTX.out k (Rn.del_sub.mem hk)) hown (by rw [HPV.out]; exact hgr) (by rw [HPV.out]; exact Or.inl rfl))
  rw [hlen] at HK
  have hne : g ≠ kg := fun e => by
    have hap := (stI_apart HSX.out (List.getElem_mem hip)).2
    rw [HPV.out] at hap
    rcases hap with h | h
    · cases h
    · exact h (by rw [e]; rfl)
  have hgb : w1.heap[g]? = X.heap[g]? := hgr.block g (by have := HBX.out.size; omega) (fun e => hne (by injection e))
  have hj3 : w1.cell? ⟨g, i * 4 + 3, none⟩ = some (.slice (some ⟨kg, 0, none⟩) tk.length d) := by rw [World.cell?_of_block hgb]; exact hk3
  have hjf : ∀ r, w1.frozen? ⟨g, r, none⟩ = false := fun r => by rw [World.frozen?_of_block hgb]; exact hkf r
  have HR := hid_mk (HBX.out.trans HK.out.2)
  clear hgb hne hown hgr hlen HCALL hk2 hk3 hkf he0 he2 he4
  go_wp2
  go_ret
  exact ⟨rfl, HR.out, fun t h => by cases h; exact ⟨_, _, HK.out.1⟩⟩
theorem pkey_next_t (s : Rn.S) (ten txt : ByteArray) (num epoch : Int) (ob base : Nat) (ps : List (Rn.T × Value)) (u : Value) (w : World) (h : StI ob base w s ps u) (h16 : s.tens.length ≤ 16) (hris : Rn.rises Rn.ltT s.tens = true) (hh : Rn.hasT s.tens ten = true) (htx : txt.size ≤ maxLen)
    (i : Nat) (hsp : Rn.spotT s.tens ten = i) (hi : i < s.tens.length) (tn : ByteArray) (te tx : Int) (tk : List Rn.K) (ht : s.tens[i] = ⟨tn, te, tx, tk⟩) (hk8 : tk.length ≤ 8) (hkr : Rn.rises Rn.ltK tk = true) (j : Nat) (hsk : Rn.spotK tk num = j) (hhk : Rn.hasK tk num = true) (hx : tx ≤ num) :
    Calls Try.prog 57 #[.pointer (some ⟨ob, 0, none⟩), .agg #[.int .i64 2, .string ten, .int .i64 num, .int .i64 epoch, .string txt]] w (RetDo ob base (.bad 7) w) := by
  obtain ⟨W0, hW0⟩ : ∃ W0, W0 = w.alloc (.cells #[.int .i64 2, .string ten, .int .i64 num, .int .i64 epoch, .string txt] 26) := ⟨_, rfl⟩
  have hobw := h.2.1.lt
  have hb0 : Below w.heap.size w W0 := by rw [hW0]; exact (Below.refl _ _).alloc (Nat.le_refl _) _
  have hs0 := stI_keep h hb0
  have hev : Blk W0 w.heap.size #[.int .i64 2, .string ten, .int .i64 num, .int .i64 epoch, .string txt] 26 := by rw [hW0]; exact Blk.new w _ _
  obtain ⟨A, c, rfl, hfit, hT⟩ := stI_tens hs0
  have hpl := stI_len hs0
  have HB0 := hid_mk (show Below base w W0 from hb0.mono (by have := h.2.2.2.2.2; omega))
  have HNW0 := hid_mk (fun (p : Rn.T × Value) (hp : p ∈ ps) => (show p.2.ownBlock ≠ some w.heap.size from fun e => by have := ((h.2.2.2.1 p hp).1.lt _ e).2; omega))
  obtain ⟨g, c', e, hbg, hgw, hgo⟩ := stI_row h (by omega)
  rw [hpl] at e
  obtain ⟨rfl, rfl⟩ : A = some ⟨g, 0, none⟩ ∧ c = c' := by simpa using e
  obtain ⟨hip, hpi⟩ := stI_at hs0 hi
  rw [ht] at hpi
  have HC : Hid (∀ d os, Calls Try.prog 63 #[.slice (some ⟨g, 0, none⟩) s.tens.length c, .string ten, .func (.func 64) #[] #[]] (grow (redrawn W0 d) os) (fun e w'' => e = .returned (.tuple #[.int .i64 (i : Int), .bool true]) ∧ ∃ p : Regrown, w'' = grow (redrawn W0 p.d) p.os)) := hid_mk (fun d os => by
    have hb := below_regrown W0 d os
    have h1 := binT_any s.tens (some ⟨g, 0, none⟩) c ten (fun b => base ≤ b ∧ b < W0.heap.size) (grow (redrawn W0 d) os) (fun b hb' => Nat.lt_of_lt_of_le hb'.2 hb.size) (by omega) (tensAt_keep hT (fun b h => h) (kept_below hb (fun b h => h.2))) hris
    rw [hh, hsp] at h1
    exact regrown_call h1)
  have z0 : ∀ d os, (grow (redrawn W0 d) os).cell? ⟨ob, 0, none⟩ = some (.slice (some ⟨g, 0, none⟩) s.tens.length c) := fun d os => cell_regrown (hs0.2.1.cell 0) d os
  have z1 : ∀ d os, (grow (redrawn W0 d) os).cell? ⟨w.heap.size, 1, none⟩ = some (.string ten) := fun d os => cell_regrown (hev.cell 1) d os
  have HS := hid_mk hs0
  have HE := hid_mk hev
  have hil : (i : Int) < (s.tens.length : Int) := by omega
  have HPI := hid_mk hpi
  have HPL := hid_mk hpl
  rw [← hpl] at HS
  have HW0 := hid_mk hW0
  have HHK := hid_mk hhk
  have HSK := hid_mk hsk
  have HKR := hid_mk hkr
  have hgne : Hid (w.heap.size ≠ g) := hid_mk (fun e => by omega)
  clear hT hfit hs0 hev h hb0 hW0 hpl hpi ht hsp hhk hsk hkr
  go_enter Try.func57, Try.ntmps57
  go_wp2
  rw [← HW0.out]
  (refine wp_region_quiet_below (by kernel_rfl) (by kernel_rfl) ?_; (repeat (first | go_big_quiet_step ((go_at_call 63; exact HC.out _ _)) | quiet_step ((go_at_call 63; exact HC.out _ _)))); refine wpQuiet_nil ?_; intro _ hw'; obtain ⟨⟨nq, osq⟩, hw''⟩ := hw'; subst hw'')
  have hvb := below_regrown W0 nq osq
  have HBV := hid_mk (HB0.out.trans (hvb.mono (by have := HB0.out.size; have := stI_base HS.out; omega)))
  have HSV := hid_mk (stI_keep HS.out hvb)
  have HEV := hid_mk (HE.out.call hvb)
  clear hvb z0 z1 HC HS HE HB0
  generalize grow (redrawn W0 nq) osq = V at *
  have hq0 : V.cell? ⟨ob, 0, none⟩ = some (.slice (some ⟨g, 0, none⟩) s.tens.length c) := by rw [← HPL.out]; exact HSV.out.2.1.cell 0
  obtain ⟨B, d, hpv, hfb, hkb⟩ := ownT_keys (HSV.out.2.2.2.1 _ (List.getElem_mem hip))
  rw [HPI.out] at hpv hfb hkb
  dsimp only at hpv hfb hkb
  have hk3 : V.cell? ⟨g, i * 4 + 3, none⟩ = some (.slice B tk.length d) := by rw [stI_cell HSV.out hip (by decide)]; unfold rowT; rw [hpv]; rfl
  have HPV := hid_mk hpv
  have HNW : Hid ((Value.slice B tk.length d).ownBlock ≠ some w.heap.size) := hid_mk (by rw [← hpv]; exact HNW0.out _ (List.getElem_mem hip))
  have HC : Hid (∀ (x : Nat) os, Calls Try.prog 66 #[.slice B tk.length d, .int .i64 num, .func (.func 67) #[] #[]] (grow (redrawn V x) os) (fun e w'' => e = .returned (.tuple #[.int .i64 (j : Int), .bool true]) ∧ ∃ p : Regrown, w'' = grow (redrawn V p.d) p.os)) := hid_mk (fun x os => by
    have hb := below_regrown V x os
    have h1 := binK_any tk B d num (fun b => base ≤ b ∧ b < V.heap.size) (grow (redrawn V x) os) (fun b hb' => Nat.lt_of_lt_of_le hb'.2 hb.size) (by omega) (keysAt_keep hkb (fun b h => h) (kept_below hb (fun b h => h.2))) HKR.out
    rw [HHK.out, HSK.out] at h1
    exact regrown_call h1)
  clear hpv hfb hkb
  have z3 : ∀ x os, (grow (redrawn V x) os).cell? ⟨g, i * 4 + 3, none⟩ = some (.slice B tk.length d) := fun x os => cell_regrown hk3 x os
  have z2 : ∀ x os, (grow (redrawn V x) os).cell? ⟨w.heap.size, 2, none⟩ = some (.int .i64 num) := fun x os => cell_regrown (HEV.out.cell 2) x os
  clear hk3
  go_wp2
  (refine wp_region_quiet_below (by kernel_rfl) (by kernel_rfl) ?_; (repeat (first | go_big_quiet_step ((go_at_call 66; exact HC.out _ _)) | quiet_step ((go_at_call 66; exact HC.out _ _)))); refine wpQuiet_nil ?_; intro _ hw'; obtain ⟨⟨nq, osq⟩, hw''⟩ := hw'; subst hw'')
  have hvb := below_regrown V nq osq
  have HBX := hid_mk (HBV.out.trans (hvb.mono (by have := HBV.out.size; have := stI_base HSV.out; omega)))
  have HSX := hid_mk (stI_keep HSV.out hvb)
  have HEX := hid_mk (HEV.out.call hvb)
  clear hvb z2 z3 HC HSV HEV HBV hq0
  generalize grow (redrawn V nq) osq = X at *
  have hk2 : X.cell? ⟨g, i * 4 + 2, none⟩ = some (.int .i64 tx) := by rw [stI_cell HSX.out hip (by decide)]; unfold rowT; rw [HPI.out]; rfl
  have hk3 : X.cell? ⟨g, i * 4 + 3, none⟩ = some (.slice B tk.length d) := by rw [stI_cell HSX.out hip (by decide)]; unfold rowT; rw [HPV.out]; rfl
  have he0 : X.cell? ⟨w.heap.size, 0, none⟩ = some (.int .i64 2) := HEX.out.cell 0
  have he2 : X.cell? ⟨w.heap.size, 2, none⟩ = some (.int .i64 num) := HEX.out.cell 2
  have he4 : X.cell? ⟨w.heap.size, 4, none⟩ = some (.string txt) := HEX.out.cell 4
  have hkf := stI_frozen HSX.out
  have f1 : decide (tx ≤ num) = true := decide_eq_true hx
  go_wp2
  have y2 : ∀ x os, (grow (redrawn X x) os).cell? ⟨g, i * 4 + 2, none⟩ = some (.int .i64 tx) := fun x os => cell_regrown hk2 x os
  have ye : ∀ x os, (grow (redrawn X x) os).cell? ⟨w.heap.size, 2, none⟩ = some (.int .i64 num) := fun x os => cell_regrown he2 x os
  (refine wp_region_quiet_below (by kernel_rfl) (by kernel_rfl) ?_; (repeat (first | go_big_quiet_step (fail) | quiet_step (fail))); refine wpQuiet_nil ?_; intro _ hw'; obtain ⟨⟨nq, osq⟩, hw''⟩ := hw'; subst hw'')
  have hvb := below_regrown X nq osq
  have HBY := hid_mk (HBX.out.trans (hvb.mono (by have := HBX.out.size; have := stI_base HSX.out; omega)))
  have HSY := hid_mk (stI_keep HSX.out hvb)
  have HEY := hid_mk (HEX.out.call hvb)
  clear hvb y2 ye HSX HEX HBX hk2 hk3 he0 he2 he4 hkf
  generalize grow (redrawn X nq) osq = Y at *
  have hk3 : Y.cell? ⟨g, i * 4 + 3, none⟩ = some (.slice B tk.length d) := by rw [stI_cell HSY.out hip (by decide)]; unfold rowT; rw [HPV.out]; rfl
  have hkf := stI_frozen HSY.out
  go_wp2
  go_ret
  exact ⟨rfl, HBY.out, fun t h => by cases h⟩
theorem pkey_next_f (s : Rn.S) (ten txt : ByteArray) (num epoch : Int) (ob base : Nat) (ps : List (Rn.T × Value)) (u : Value) (w : World) (h : StI ob base w s ps u) (h16 : s.tens.length ≤ 16) (hris : Rn.rises Rn.ltT s.tens = true) (hh : Rn.hasT s.tens ten = true) (htx : txt.size ≤ maxLen)
    (i : Nat) (hsp : Rn.spotT s.tens ten = i) (hi : i < s.tens.length) (tn : ByteArray) (te tx : Int) (tk : List Rn.K) (ht : s.tens[i] = ⟨tn, te, tx, tk⟩) (hk8 : tk.length ≤ 8) (hkr : Rn.rises Rn.ltK tk = true) (j : Nat) (hsk : Rn.spotK tk num = j) (hhk : Rn.hasK tk num = false) (hx : tx ≤ num) :
    Calls Try.prog 57 #[.pointer (some ⟨ob, 0, none⟩), .agg #[.int .i64 2, .string ten, .int .i64 num, .int .i64 epoch, .string txt]] w (RetDo ob base (.bad 7) w) := by
  obtain ⟨W0, hW0⟩ : ∃ W0, W0 = w.alloc (.cells #[.int .i64 2, .string ten, .int .i64 num, .int .i64 epoch, .string txt] 26) := ⟨_, rfl⟩
  have hobw := h.2.1.lt
  have hb0 : Below w.heap.size w W0 := by rw [hW0]; exact (Below.refl _ _).alloc (Nat.le_refl _) _
  have hs0 := stI_keep h hb0
  have hev : Blk W0 w.heap.size #[.int .i64 2, .string ten, .int .i64 num, .int .i64 epoch, .string txt] 26 := by rw [hW0]; exact Blk.new w _ _
  obtain ⟨A, c, rfl, hfit, hT⟩ := stI_tens hs0
  have hpl := stI_len hs0
  have HB0 := hid_mk (show Below base w W0 from hb0.mono (by have := h.2.2.2.2.2; omega))
  have HNW0 := hid_mk (fun (p : Rn.T × Value) (hp : p ∈ ps) => (show p.2.ownBlock ≠ some w.heap.size from fun e => by have := ((h.2.2.2.1 p hp).1.lt _ e).2; omega))
  obtain ⟨g, c', e, hbg, hgw, hgo⟩ := stI_row h (by omega)
  rw [hpl] at e
  obtain ⟨rfl, rfl⟩ : A = some ⟨g, 0, none⟩ ∧ c = c' := by simpa using e
  obtain ⟨hip, hpi⟩ := stI_at hs0 hi
  rw [ht] at hpi
  have HC : Hid (∀ d os, Calls Try.prog 63 #[.slice (some ⟨g, 0, none⟩) s.tens.length c, .string ten, .func (.func 64) #[] #[]] (grow (redrawn W0 d) os) (fun e w'' => e = .returned (.tuple #[.int .i64 (i : Int), .bool true]) ∧ ∃ p : Regrown, w'' = grow (redrawn W0 p.d) p.os)) := hid_mk (fun d os => by
    have hb := below_regrown W0 d os
    have h1 := binT_any s.tens (some ⟨g, 0, none⟩) c ten (fun b => base ≤ b ∧ b < W0.heap.size) (grow (redrawn W0 d) os) (fun b hb' => Nat.lt_of_lt_of_le hb'.2 hb.size) (by omega) (tensAt_keep hT (fun b h => h) (kept_below hb (fun b h => h.2))) hris
    rw [hh, hsp] at h1
    exact regrown_call h1)
  have z0 : ∀ d os, (grow (redrawn W0 d) os).cell? ⟨ob, 0, none⟩ = some (.slice (some ⟨g, 0, none⟩) s.tens.length c) := fun d os => cell_regrown (hs0.2.1.cell 0) d os
  have z1 : ∀ d os, (grow (redrawn W0 d) os).cell? ⟨w.heap.size, 1, none⟩ = some (.string ten) := fun d os => cell_regrown (hev.cell 1) d os
  have HS := hid_mk hs0
  have HE := hid_mk hev
  have hil : (i : Int) < (s.tens.length : Int) := by omega
  have HPI := hid_mk hpi
  have HPL := hid_mk hpl
  rw [← hpl] at HS
  have HW0 := hid_mk hW0
  have HHK := hid_mk hhk
  have HSK := hid_mk hsk
  have HKR := hid_mk hkr
  have hgne : Hid (w.heap.size ≠ g) := hid_mk (fun e => by omega)
  clear hT hfit hs0 hev h hb0 hW0 hpl hpi ht hsp hhk hsk hkr
  go_enter Try.func57, Try.ntmps57
  go_wp2
  rw [← HW0.out]
  (refine wp_region_quiet_below (by kernel_rfl) (by kernel_rfl) ?_; (repeat (first | go_big_quiet_step ((go_at_call 63; exact HC.out _ _)) | quiet_step ((go_at_call 63; exact HC.out _ _)))); refine wpQuiet_nil ?_; intro _ hw'; obtain ⟨⟨nq, osq⟩, hw''⟩ := hw'; subst hw'')
  have hvb := below_regrown W0 nq osq
  have HBV := hid_mk (HB0.out.trans (hvb.mono (by have := HB0.out.size; have := stI_base HS.out; omega)))
  have HSV := hid_mk (stI_keep HS.out hvb)
  have HEV := hid_mk (HE.out.call hvb)
  clear hvb z0 z1 HC HS HE HB0
  generalize grow (redrawn W0 nq) osq = V at *
  have hq0 : V.cell? ⟨ob, 0, none⟩ = some (.slice (some ⟨g, 0, none⟩) s.tens.length c) := by rw [← HPL.out]; exact HSV.out.2.1.cell 0
  obtain ⟨B, d, hpv, hfb, hkb⟩ := ownT_keys (HSV.out.2.2.2.1 _ (List.getElem_mem hip))
  rw [HPI.out] at hpv hfb hkb
  dsimp only at hpv hfb hkb
  have hk3 : V.cell? ⟨g, i * 4 + 3, none⟩ = some (.slice B tk.length d) := by rw [stI_cell HSV.out hip (by decide)]; unfold rowT; rw [hpv]; rfl
  have HPV := hid_mk hpv
  have HNW : Hid ((Value.slice B tk.length d).ownBlock ≠ some w.heap.size) := hid_mk (by rw [← hpv]; exact HNW0.out _ (List.getElem_mem hip))
  have HC : Hid (∀ (x : Nat) os, Calls Try.prog 66 #[.slice B tk.length d, .int .i64 num, .func (.func 67) #[] #[]] (grow (redrawn V x) os) (fun e w'' => e = .returned (.tuple #[.int .i64 (j : Int), .bool false]) ∧ ∃ p : Regrown, w'' = grow (redrawn V p.d) p.os)) := hid_mk (fun x os => by
    have hb := below_regrown V x os
    have h1 := binK_any tk B d num (fun b => base ≤ b ∧ b < V.heap.size) (grow (redrawn V x) os) (fun b hb' => Nat.lt_of_lt_of_le hb'.2 hb.size) (by omega) (keysAt_keep hkb (fun b h => h) (kept_below hb (fun b h => h.2))) HKR.out
    rw [HHK.out, HSK.out] at h1
    exact regrown_call h1)
  clear hpv hfb hkb
  have z3 : ∀ x os, (grow (redrawn V x) os).cell? ⟨g, i * 4 + 3, none⟩ = some (.slice B tk.length d) := fun x os => cell_regrown hk3 x os
  have z2 : ∀ x os, (grow (redrawn V x) os).cell? ⟨w.heap.size, 2, none⟩ = some (.int .i64 num) := fun x os => cell_regrown (HEV.out.cell 2) x os
  clear hk3
  go_wp2
  (refine wp_region_quiet_below (by kernel_rfl) (by kernel_rfl) ?_; (repeat (first | go_big_quiet_step ((go_at_call 66; exact HC.out _ _)) | quiet_step ((go_at_call 66; exact HC.out _ _)))); refine wpQuiet_nil ?_; intro _ hw'; obtain ⟨⟨nq, osq⟩, hw''⟩ := hw'; subst hw'')
  have hvb := below_regrown V nq osq
  have HBX := hid_mk (HBV.out.trans (hvb.mono (by have := HBV.out.size; have := stI_base HSV.out; omega)))
  have HSX := hid_mk (stI_keep HSV.out hvb)
  have HEX := hid_mk (HEV.out.call hvb)
  clear hvb z2 z3 HC HSV HEV HBV hq0
  generalize grow (redrawn V nq) osq = X at *
  have hk2 : X.cell? ⟨g, i * 4 + 2, none⟩ = some (.int .i64 tx) := by rw [stI_cell HSX.out hip (by decide)]; unfold rowT; rw [HPI.out]; rfl
  have hk3 : X.cell? ⟨g, i * 4 + 3, none⟩ = some (.slice B tk.length d) := by rw [stI_cell HSX.out hip (by decide)]; unfold rowT; rw [HPV.out]; rfl
  have he0 : X.cell? ⟨w.heap.size, 0, none⟩ = some (.int .i64 2) := HEX.out.cell 0
  have he2 : X.cell? ⟨w.heap.size, 2, none⟩ = some (.int .i64 num) := HEX.out.cell 2
  have he4 : X.cell? ⟨w.heap.size, 4, none⟩ = some (.string txt) := HEX.out.cell 4
  have hkf := stI_frozen HSX.out
  have f1 : decide (tx ≤ num) = true := decide_eq_true hx
  go_wp2
  have y2 : ∀ x os, (grow (redrawn X x) os).cell? ⟨g, i * 4 + 2, none⟩ = some (.int .i64 tx) := fun x os => cell_regrown hk2 x os
  have ye : ∀ x os, (grow (redrawn X x) os).cell? ⟨w.heap.size, 2, none⟩ = some (.int .i64 num) := fun x os => cell_regrown he2 x os
  (refine wp_region_quiet_below (by kernel_rfl) (by kernel_rfl) ?_; (repeat (first | go_big_quiet_step (fail) | quiet_step (fail))); refine wpQuiet_nil ?_; intro _ hw'; obtain ⟨⟨nq, osq⟩, hw''⟩ := hw'; subst hw'')
  have hvb := below_regrown X nq osq
  have HBY := hid_mk (HBX.out.trans (hvb.mono (by have := HBX.out.size; have := stI_base HSX.out; omega)))
  have HSY := hid_mk (stI_keep HSX.out hvb)
  have HEY := hid_mk (HEX.out.call hvb)
  clear hvb y2 ye HSX HEX HBX hk2 hk3 he0 he2 he4 hkf
  generalize grow (redrawn X nq) osq = Y at *
  have hk3 : Y.cell? ⟨g, i * 4 + 3, none⟩ = some (.slice B tk.length d) := by rw [stI_cell HSY.out hip (by decide)]; unfold rowT; rw [HPV.out]; rfl
  have hkf := stI_frozen HSY.out
  go_wp2
  go_ret
  exact ⟨rfl, HBY.out, fun t h => by cases h⟩
theorem pkey_twice (s : Rn.S) (ten txt : ByteArray) (num epoch : Int) (ob base : Nat) (ps : List (Rn.T × Value)) (u : Value) (w : World) (h : StI ob base w s ps u) (h16 : s.tens.length ≤ 16) (hris : Rn.rises Rn.ltT s.tens = true) (hh : Rn.hasT s.tens ten = true) (htx : txt.size ≤ maxLen)
    (i : Nat) (hsp : Rn.spotT s.tens ten = i) (hi : i < s.tens.length) (tn : ByteArray) (te tx : Int) (tk : List Rn.K) (ht : s.tens[i] = ⟨tn, te, tx, tk⟩) (hk8 : tk.length ≤ 8) (hkr : Rn.rises Rn.ltK tk = true) (j : Nat) (hsk : Rn.spotK tk num = j) (hhk : Rn.hasK tk num = true) (hx : ¬ tx ≤ num) :
    Calls Try.prog 57 #[.pointer (some ⟨ob, 0, none⟩), .agg #[.int .i64 2, .string ten, .int .i64 num, .int .i64 epoch, .string txt]] w (RetDo ob base (.bad 5) w) := by
  obtain ⟨W0, hW0⟩ : ∃ W0, W0 = w.alloc (.cells #[.int .i64 2, .string ten, .int .i64 num, .int .i64 epoch, .string txt] 26) := ⟨_, rfl⟩
  have hobw := h.2.1.lt
  have hb0 : Below w.heap.size w W0 := by rw [hW0]; exact (Below.refl _ _).alloc (Nat.le_refl _) _
  have hs0 := stI_keep h hb0
  have hev : Blk W0 w.heap.size #[.int .i64 2, .string ten, .int .i64 num, .int .i64 epoch, .string txt] 26 := by rw [hW0]; exact Blk.new w _ _
  obtain ⟨A, c, rfl, hfit, hT⟩ := stI_tens hs0
  have hpl := stI_len hs0
  have HB0 := hid_mk (show Below base w W0 from hb0.mono (by have := h.2.2.2.2.2; omega))
  have HNW0 := hid_mk (fun (p : Rn.T × Value) (hp : p ∈ ps) => (show p.2.ownBlock ≠ some w.heap.size from fun e => by have := ((h.2.2.2.1 p hp).1.lt _ e).2; omega))
  obtain ⟨g, c', e, hbg, hgw, hgo⟩ := stI_row h (by omega)
  rw [hpl] at e
  obtain ⟨rfl, rfl⟩ : A = some ⟨g, 0, none⟩ ∧ c = c' := by simpa using e
  obtain ⟨hip, hpi⟩ := stI_at hs0 hi
  rw [ht] at hpi
  have HC : Hid (∀ d os, Calls Try.prog 63 #[.slice (some ⟨g, 0, none⟩) s.tens.length c, .string ten, .func (.func 64) #[] #[]] (grow (redrawn W0 d) os) (fun e w'' => e = .returned (.tuple #[.int .i64 (i : Int), .bool true]) ∧ ∃ p : Regrown, w'' = grow (redrawn W0 p.d) p.os)) := hid_mk (fun d os => by
    have hb := below_regrown W0 d os
    have h1 := binT_any s.tens (some ⟨g, 0, none⟩) c ten (fun b => base ≤ b ∧ b < W0.heap.size) (grow (redrawn W0 d) os) (fun b hb' => Nat.lt_of_lt_of_le hb'.2 hb.size) (by omega) (tensAt_keep hT (fun b h => h) (kept_below hb (fun b h => h.2))) hris
    rw [hh, hsp] at h1
    exact regrown_call h1)
  have z0 : ∀ d os, (grow (redrawn W0 d) os).cell? ⟨ob, 0, none⟩ = some (.slice (some ⟨g, 0, none⟩) s.tens.length c) := fun d os => cell_regrown (hs0.2.1.cell 0) d os
  have z1 : ∀ d os, (grow (redrawn W0 d) os).cell? ⟨w.heap.size, 1, none⟩ = some (.string ten) := fun d os => cell_regrown (hev.cell 1) d os
  have HS := hid_mk hs0
  have HE := hid_mk hev
  have hil : (i : Int) < (s.tens.length : Int) := by omega
  have HPI := hid_mk hpi
  have HPL := hid_mk hpl
  rw [← hpl] at HS
  have HW0 := hid_mk hW0
  have HHK := hid_mk hhk
  have HSK := hid_mk hsk
  have HKR := hid_mk hkr
  have hgne : Hid (w.heap.size ≠ g) := hid_mk (fun e => by omega)
  clear hT hfit hs0 hev h hb0 hW0 hpl hpi ht hsp hhk hsk hkr
  go_enter Try.func57, Try.ntmps57
  go_wp2
  rw [← HW0.out]
  (refine wp_region_quiet_below (by kernel_rfl) (by kernel_rfl) ?_; (repeat (first | go_big_quiet_step ((go_at_call 63; exact HC.out _ _)) | quiet_step ((go_at_call 63; exact HC.out _ _)))); refine wpQuiet_nil ?_; intro _ hw'; obtain ⟨⟨nq, osq⟩, hw''⟩ := hw'; subst hw'')
  have hvb := below_regrown W0 nq osq
  have HBV := hid_mk (HB0.out.trans (hvb.mono (by have := HB0.out.size; have := stI_base HS.out; omega)))
  have HSV := hid_mk (stI_keep HS.out hvb)
  have HEV := hid_mk (HE.out.call hvb)
  clear hvb z0 z1 HC HS HE HB0
  generalize grow (redrawn W0 nq) osq = V at *
  have hq0 : V.cell? ⟨ob, 0, none⟩ = some (.slice (some ⟨g, 0, none⟩) s.tens.length c) := by rw [← HPL.out]; exact HSV.out.2.1.cell 0
  obtain ⟨B, d, hpv, hfb, hkb⟩ := ownT_keys (HSV.out.2.2.2.1 _ (List.getElem_mem hip))
  rw [HPI.out] at hpv hfb hkb
  dsimp only at hpv hfb hkb
  have hk3 : V.cell? ⟨g, i * 4 + 3, none⟩ = some (.slice B tk.length d) := by rw [stI_cell HSV.out hip (by decide)]; unfold rowT; rw [hpv]; rfl
  have HPV := hid_mk hpv
  have HNW : Hid ((Value.slice B tk.length d).ownBlock ≠ some w.heap.size) := hid_mk (by rw [← hpv]; exact HNW0.out _ (List.getElem_mem hip))
  have HC : Hid (∀ (x : Nat) os, Calls Try.prog 66 #[.slice B tk.length d, .int .i64 num, .func (.func 67) #[] #[]] (grow (redrawn V x) os) (fun e w'' => e = .returned (.tuple #[.int .i64 (j : Int), .bool true]) ∧ ∃ p : Regrown, w'' = grow (redrawn V p.d) p.os)) := hid_mk (fun x os => by
    have hb := below_regrown V x os
    have h1 := binK_any tk B d num (fun b => base ≤ b ∧ b < V.heap.size) (grow (redrawn V x) os) (fun b hb' => Nat.lt_of_lt_of_le hb'.2 hb.size) (by omega) (keysAt_keep hkb (fun b h => h) (kept_below hb (fun b h => h.2))) HKR.out
    rw [HHK.out, HSK.out] at h1
    exact regrown_call h1)
  clear hpv hfb hkb
  have z3 : ∀ x os, (grow (redrawn V x) os).cell? ⟨g, i * 4 + 3, none⟩ = some (.slice B tk.length d) := fun x os => cell_regrown hk3 x os
  have z2 : ∀ x os, (grow (redrawn V x) os).cell? ⟨w.heap.size, 2, none⟩ = some (.int .i64 num) := fun x os => cell_regrown (HEV.out.cell 2) x os
  clear hk3
  go_wp2
  (refine wp_region_quiet_below (by kernel_rfl) (by kernel_rfl) ?_; (repeat (first | go_big_quiet_step ((go_at_call 66; exact HC.out _ _)) | quiet_step ((go_at_call 66; exact HC.out _ _)))); refine wpQuiet_nil ?_; intro _ hw'; obtain ⟨⟨nq, osq⟩, hw''⟩ := hw'; subst hw'')
  have hvb := below_regrown V nq osq
  have HBX := hid_mk (HBV.out.trans (hvb.mono (by have := HBV.out.size; have := stI_base HSV.out; omega)))
  have HSX := hid_mk (stI_keep HSV.out hvb)
  have HEX := hid_mk (HEV.out.call hvb)
  clear hvb z2 z3 HC HSV HEV HBV hq0
  generalize grow (redrawn V nq) osq = X at *
  have hk2 : X.cell? ⟨g, i * 4 + 2, none⟩ = some (.int .i64 tx) := by rw [stI_cell HSX.out hip (by decide)]; unfold rowT; rw [HPI.out]; rfl
  have hk3 : X.cell? ⟨g, i * 4 + 3, none⟩ = some (.slice B tk.length d) := by rw [stI_cell HSX.out hip (by decide)]; unfold rowT; rw [HPV.out]; rfl
  have he0 : X.cell? ⟨w.heap.size, 0, none⟩ = some (.int .i64 2) := HEX.out.cell 0
  have he2 : X.cell? ⟨w.heap.size, 2, none⟩ = some (.int .i64 num) := HEX.out.cell 2
  have he4 : X.cell? ⟨w.heap.size, 4, none⟩ = some (.string txt) := HEX.out.cell 4
  have hkf := stI_frozen HSX.out
  have f1 : decide (tx ≤ num) = false := decide_eq_false (by omega)
  go_wp2
  have y2 : ∀ x os, (grow (redrawn X x) os).cell? ⟨g, i * 4 + 2, none⟩ = some (.int .i64 tx) := fun x os => cell_regrown hk2 x os
  have ye : ∀ x os, (grow (redrawn X x) os).cell? ⟨w.heap.size, 2, none⟩ = some (.int .i64 num) := fun x os => cell_regrown he2 x os
  (refine wp_region_quiet_below (by kernel_rfl) (by kernel_rfl) ?_; (repeat (first | go_big_quiet_step (fail) | quiet_step (fail))); refine wpQuiet_nil ?_; intro _ hw'; obtain ⟨⟨nq, osq⟩, hw''⟩ := hw'; subst hw'')
  have hvb := below_regrown X nq osq
  have HBY := hid_mk (HBX.out.trans (hvb.mono (by have := HBX.out.size; have := stI_base HSX.out; omega)))
  have HSY := hid_mk (stI_keep HSX.out hvb)
  have HEY := hid_mk (HEX.out.call hvb)
  clear hvb y2 ye HSX HEX HBX hk2 hk3 he0 he2 he4 hkf
  generalize grow (redrawn X nq) osq = Y at *
  have hk3 : Y.cell? ⟨g, i * 4 + 3, none⟩ = some (.slice B tk.length d) := by rw [stI_cell HSY.out hip (by decide)]; unfold rowT; rw [HPV.out]; rfl
  have hkf := stI_frozen HSY.out
  go_wp2
  go_ret
  exact ⟨rfl, HBY.out, fun t h => by cases h⟩
theorem pkey_limit (s : Rn.S) (ten txt : ByteArray) (num epoch : Int) (ob base : Nat) (ps : List (Rn.T × Value)) (u : Value) (w : World) (h : StI ob base w s ps u) (h16 : s.tens.length ≤ 16) (hris : Rn.rises Rn.ltT s.tens = true) (hh : Rn.hasT s.tens ten = true) (htx : txt.size ≤ maxLen)
    (i : Nat) (hsp : Rn.spotT s.tens ten = i) (hi : i < s.tens.length) (tn : ByteArray) (te tx : Int) (tk : List Rn.K) (ht : s.tens[i] = ⟨tn, te, tx, tk⟩) (hk8 : tk.length ≤ 8) (hkr : Rn.rises Rn.ltK tk = true) (j : Nat) (hsk : Rn.spotK tk num = j) (hhk : Rn.hasK tk num = false) (hx : ¬ tx ≤ num) (h8 : tk.length = 8) :
    Calls Try.prog 57 #[.pointer (some ⟨ob, 0, none⟩), .agg #[.int .i64 2, .string ten, .int .i64 num, .int .i64 epoch, .string txt]] w (RetDo ob base (.bad 3) w) := by
  have H8 := hid_mk h8
  clear h8
  obtain ⟨W0, hW0⟩ : ∃ W0, W0 = w.alloc (.cells #[.int .i64 2, .string ten, .int .i64 num, .int .i64 epoch, .string txt] 26) := ⟨_, rfl⟩
  have hobw := h.2.1.lt
  have hb0 : Below w.heap.size w W0 := by rw [hW0]; exact (Below.refl _ _).alloc (Nat.le_refl _) _
  have hs0 := stI_keep h hb0
  have hev : Blk W0 w.heap.size #[.int .i64 2, .string ten, .int .i64 num, .int .i64 epoch, .string txt] 26 := by rw [hW0]; exact Blk.new w _ _
  obtain ⟨A, c, rfl, hfit, hT⟩ := stI_tens hs0
  have hpl := stI_len hs0
  have HB0 := hid_mk (show Below base w W0 from hb0.mono (by have := h.2.2.2.2.2; omega))
  have HNW0 := hid_mk (fun (p : Rn.T × Value) (hp : p ∈ ps) => (show p.2.ownBlock ≠ some w.heap.size from fun e => by have := ((h.2.2.2.1 p hp).1.lt _ e).2; omega))
  obtain ⟨g, c', e, hbg, hgw, hgo⟩ := stI_row h (by omega)
  rw [hpl] at e
  obtain ⟨rfl, rfl⟩ : A = some ⟨g, 0, none⟩ ∧ c = c' := by simpa using e
  obtain ⟨hip, hpi⟩ := stI_at hs0 hi
  rw [ht] at hpi
  have HC : Hid (∀ d os, Calls Try.prog 63 #[.slice (some ⟨g, 0, none⟩) s.tens.length c, .string ten, .func (.func 64) #[] #[]] (grow (redrawn W0 d) os) (fun e w'' => e = .returned (.tuple #[.int .i64 (i : Int), .bool true]) ∧ ∃ p : Regrown, w'' = grow (redrawn W0 p.d) p.os)) := hid_mk (fun d os => by
    have hb := below_regrown W0 d os
    have h1 := binT_any s.tens (some ⟨g, 0, none⟩) c ten (fun b => base ≤ b ∧ b < W0.heap.size) (grow (redrawn W0 d) os) (fun b hb' => Nat.lt_of_lt_of_le hb'.2 hb.size) (by omega) (tensAt_keep hT (fun b h => h) (kept_below hb (fun b h => h.2))) hris
    rw [hh, hsp] at h1
    exact regrown_call h1)
  have z0 : ∀ d os, (grow (redrawn W0 d) os).cell? ⟨ob, 0, none⟩ = some (.slice (some ⟨g, 0, none⟩) s.tens.length c) := fun d os => cell_regrown (hs0.2.1.cell 0) d os
  have z1 : ∀ d os, (grow (redrawn W0 d) os).cell? ⟨w.heap.size, 1, none⟩ = some (.string ten) := fun d os => cell_regrown (hev.cell 1) d os
  have HS := hid_mk hs0
  have HE := hid_mk hev
  have hil : (i : Int) < (s.tens.length : Int) := by omega
  have HPI := hid_mk hpi
  have HPL := hid_mk hpl
  rw [← hpl] at HS
  have HW0 := hid_mk hW0
  have HHK := hid_mk hhk
  have HSK := hid_mk hsk
  have HKR := hid_mk hkr
  have hgne : Hid (w.heap.size ≠ g) := hid_mk (fun e => by omega)
  clear hT hfit hs0 hev h hb0 hW0 hpl hpi ht hsp hhk hsk hkr
  go_enter Try.func57, Try.ntmps57
  go_wp2
  rw [← HW0.out]
  (refine wp_region_quiet_below (by kernel_rfl) (by kernel_rfl) ?_; (repeat (first | go_big_quiet_step ((go_at_call 63; exact HC.out _ _)) | quiet_step ((go_at_call 63; exact HC.out _ _)))); refine wpQuiet_nil ?_; intro _ hw'; obtain ⟨⟨nq, osq⟩, hw''⟩ := hw'; subst hw'')
  have hvb := below_regrown W0 nq osq
  have HBV := hid_mk (HB0.out.trans (hvb.mono (by have := HB0.out.size; have := stI_base HS.out; omega)))
  have HSV := hid_mk (stI_keep HS.out hvb)
  have HEV := hid_mk (HE.out.call hvb)
  clear hvb z0 z1 HC HS HE HB0
  generalize grow (redrawn W0 nq) osq = V at *
  have hq0 : V.cell? ⟨ob, 0, none⟩ = some (.slice (some ⟨g, 0, none⟩) s.tens.length c) := by rw [← HPL.out]; exact HSV.out.2.1.cell 0
  obtain ⟨B, d, hpv, hfb, hkb⟩ := ownT_keys (HSV.out.2.2.2.1 _ (List.getElem_mem hip))
  rw [HPI.out] at hpv hfb hkb
  dsimp only at hpv hfb hkb
  have hk3 : V.cell? ⟨g, i * 4 + 3, none⟩ = some (.slice B tk.length d) := by rw [stI_cell HSV.out hip (by decide)]; unfold rowT; rw [hpv]; rfl
  have HPV := hid_mk hpv
  have HNW : Hid ((Value.slice B tk.length d).ownBlock ≠ some w.heap.size) := hid_mk (by rw [← hpv]; exact HNW0.out _ (List.getElem_mem hip))
  have HC : Hid (∀ (x : Nat) os, Calls Try.prog 66 #[.slice B tk.length d, .int .i64 num, .func (.func 67) #[] #[]] (grow (redrawn V x) os) (fun e w'' => e = .returned (.tuple #[.int .i64 (j : Int), .bool false]) ∧ ∃ p : Regrown, w'' = grow (redrawn V p.d) p.os)) := hid_mk (fun x os => by
    have hb := below_regrown V x os
    have h1 := binK_any tk B d num (fun b => base ≤ b ∧ b < V.heap.size) (grow (redrawn V x) os) (fun b hb' => Nat.lt_of_lt_of_le hb'.2 hb.size) (by omega) (keysAt_keep hkb (fun b h => h) (kept_below hb (fun b h => h.2))) HKR.out
    rw [HHK.out, HSK.out] at h1
    exact regrown_call h1)
  clear hpv hfb hkb
  have z3 : ∀ x os, (grow (redrawn V x) os).cell? ⟨g, i * 4 + 3, none⟩ = some (.slice B tk.length d) := fun x os => cell_regrown hk3 x os
  have z2 : ∀ x os, (grow (redrawn V x) os).cell? ⟨w.heap.size, 2, none⟩ = some (.int .i64 num) := fun x os => cell_regrown (HEV.out.cell 2) x os
  clear hk3
  go_wp2
  (refine wp_region_quiet_below (by kernel_rfl) (by kernel_rfl) ?_; (repeat (first | go_big_quiet_step ((go_at_call 66; exact HC.out _ _)) | quiet_step ((go_at_call 66; exact HC.out _ _)))); refine wpQuiet_nil ?_; intro _ hw'; obtain ⟨⟨nq, osq⟩, hw''⟩ := hw'; subst hw'')
  have hvb := below_regrown V nq osq
  have HBX := hid_mk (HBV.out.trans (hvb.mono (by have := HBV.out.size; have := stI_base HSV.out; omega)))
  have HSX := hid_mk (stI_keep HSV.out hvb)
  have HEX := hid_mk (HEV.out.call hvb)
  clear hvb z2 z3 HC HSV HEV HBV hq0
  generalize grow (redrawn V nq) osq = X at *
  have hk2 : X.cell? ⟨g, i * 4 + 2, none⟩ = some (.int .i64 tx) := by rw [stI_cell HSX.out hip (by decide)]; unfold rowT; rw [HPI.out]; rfl
  have hk3 : X.cell? ⟨g, i * 4 + 3, none⟩ = some (.slice B tk.length d) := by rw [stI_cell HSX.out hip (by decide)]; unfold rowT; rw [HPV.out]; rfl
  have he0 : X.cell? ⟨w.heap.size, 0, none⟩ = some (.int .i64 2) := HEX.out.cell 0
  have he2 : X.cell? ⟨w.heap.size, 2, none⟩ = some (.int .i64 num) := HEX.out.cell 2
  have he4 : X.cell? ⟨w.heap.size, 4, none⟩ = some (.string txt) := HEX.out.cell 4
  have hkf := stI_frozen HSX.out
  have f1 : decide (tx ≤ num) = false := decide_eq_false (by omega)
  go_wp2
  have y2 : ∀ x os, (grow (redrawn X x) os).cell? ⟨g, i * 4 + 2, none⟩ = some (.int .i64 tx) := fun x os => cell_regrown hk2 x os
  have ye : ∀ x os, (grow (redrawn X x) os).cell? ⟨w.heap.size, 2, none⟩ = some (.int .i64 num) := fun x os => cell_regrown he2 x os
  (refine wp_region_quiet_below (by kernel_rfl) (by kernel_rfl) ?_; (repeat (first | go_big_quiet_step (fail) | quiet_step (fail))); refine wpQuiet_nil ?_; intro _ hw'; obtain ⟨⟨nq, osq⟩, hw''⟩ := hw'; subst hw'')
  have hvb := below_regrown X nq osq
  have HBY := hid_mk (HBX.out.trans (hvb.mono (by have := HBX.out.size; have := stI_base HSX.out; omega)))
  have HSY := hid_mk (stI_keep HSX.out hvb)
  have HEY := hid_mk (HEX.out.call hvb)
  clear hvb y2 ye HSX HEX HBX hk2 hk3 he0 he2 he4 hkf
  generalize grow (redrawn X nq) osq = Y at *
  have hk3 : Y.cell? ⟨g, i * 4 + 3, none⟩ = some (.slice B tk.length d) := by rw [stI_cell HSY.out hip (by decide)]; unfold rowT; rw [HPV.out]; rfl
  have hkf := stI_frozen HSY.out
  rw [H8.out] at hk3
  go_wp2
  go_ret
  exact ⟨rfl, HBY.out, fun t h => by cases h⟩
theorem pkey_ok (s : Rn.S) (ten txt : ByteArray) (num epoch : Int) (ob base : Nat) (ps : List (Rn.T × Value)) (u : Value) (w : World) (h : StI ob base w s ps u) (h16 : s.tens.length ≤ 16) (hris : Rn.rises Rn.ltT s.tens = true) (hh : Rn.hasT s.tens ten = true) (htx : txt.size ≤ maxLen)
    (i : Nat) (hsp : Rn.spotT s.tens ten = i) (hi : i < s.tens.length) (tn : ByteArray) (te tx : Int) (tk : List Rn.K) (ht : s.tens[i] = ⟨tn, te, tx, tk⟩) (hk8 : tk.length ≤ 8) (hkr : Rn.rises Rn.ltK tk = true) (j : Nat) (hsk : Rn.spotK tk num = j) (hhk : Rn.hasK tk num = false) (hx : ¬ tx ≤ num) (h8 : ¬ tk.length = 8) (hjl : j ≤ tk.length) :
    Calls Try.prog 57 #[.pointer (some ⟨ob, 0, none⟩), .agg #[.int .i64 2, .string ten, .int .i64 num, .int .i64 epoch, .string txt]] w (RetDo ob base (.ok ⟨s.tens.set i ⟨tn, te, tx, Rn.ins tk j ⟨num, txt⟩⟩, s.serial⟩) w) := by
  obtain ⟨W0, hW0⟩ : ∃ W0, W0 = w.alloc (.cells #[.int .i64 2, .string ten, .int .i64 num, .int .i64 epoch, .string txt] 26) := ⟨_, rfl⟩
  have hobw := h.2.1.lt
  have hb0 : Below w.heap.size w W0 := by rw [hW0]; exact (Below.refl _ _).alloc (Nat.le_refl _) _
  have hs0 := stI_keep h hb0
  have hev : Blk W0 w.heap.size #[.int .i64 2, .string ten, .int .i64 num, .int .i64 epoch, .string txt] 26 := by rw [hW0]; exact Blk.new w _ _
  obtain ⟨A, c, rfl, hfit, hT⟩ := stI_tens hs0
  have hpl := stI_len hs0
  have HB0 := hid_mk (show Below base w W0 from hb0.mono (by have := h.2.2.2.2.2; omega))
  have HNW0 := hid_mk (fun (p : Rn.T × Value) (hp : p ∈ ps) => (show p.2.ownBlock ≠ some w.heap.size from fun e => by have := ((h.2.2.2.1 p hp).1.lt _ e).2; omega))
  obtain ⟨g, c', e, hbg, hgw, hgo⟩ := stI_row h (by omega)
  rw [hpl] at e
  obtain ⟨rfl, rfl⟩ : A = some ⟨g, 0, none⟩ ∧ c = c' := by simpa using e
  obtain ⟨hip, hpi⟩ := stI_at hs0 hi
  rw [ht] at hpi
  have HC : Hid (∀ d os, Calls Try.prog 63 #[.slice (some ⟨g, 0, none⟩) s.tens.length c, .string ten, .func (.func 64) #[] #[]] (grow (redrawn W0 d) os) (fun e w'' => e = .returned (.tuple #[.int .i64 (i : Int), .bool true]) ∧ ∃ p : Regrown, w'' = grow (redrawn W0 p.d) p.os)) := hid_mk (fun d os => by
    have hb := below_regrown W0 d os
    have h1 := binT_any s.tens (some ⟨g, 0, none⟩) c ten (fun b => base ≤ b ∧ b < W0.heap.size) (grow (redrawn W0 d) os) (fun b hb' => Nat.lt_of_lt_of_le hb'.2 hb.size) (by omega) (tensAt_keep hT (fun b h => h) (kept_below hb (fun b h => h.2))) hris
    rw [hh, hsp] at h1
    exact regrown_call h1)
  have z0 : ∀ d os, (grow (redrawn W0 d) os).cell? ⟨ob, 0, none⟩ = some (.slice (some ⟨g, 0, none⟩) s.tens.length c) := fun d os => cell_regrown (hs0.2.1.cell 0) d os
  have z1 : ∀ d os, (grow (redrawn W0 d) os).cell? ⟨w.heap.size, 1, none⟩ = some (.string ten) := fun d os => cell_regrown (hev.cell 1) d os
  have HS := hid_mk hs0
  have HE := hid_mk hev
  have hil : (i : Int) < (s.tens.length : Int) := by omega
  have HPI := hid_mk hpi
  have HPL := hid_mk hpl
  rw [← hpl] at HS
  have HW0 := hid_mk hW0
  have HHK := hid_mk hhk
  have HSK := hid_mk hsk
  have HKR := hid_mk hkr
  have hgne : Hid (w.heap.size ≠ g) := hid_mk (fun e => by omega)
  clear hT hfit hs0 hev h hb0 hW0 hpl hpi ht hsp hhk hsk hkr
  go_enter Try.func57, Try.ntmps57
  go_wp2
  rw [← HW0.out]
  (refine wp_region_quiet_below (by kernel_rfl) (by kernel_rfl) ?_; (repeat (first | go_big_quiet_step ((go_at_call 63; exact HC.out _ _)) | quiet_step ((go_at_call 63; exact HC.out _ _)))); refine wpQuiet_nil ?_; intro _ hw'; obtain ⟨⟨nq, osq⟩, hw''⟩ := hw'; subst hw'')
  have hvb := below_regrown W0 nq osq
  have HBV := hid_mk (HB0.out.trans (hvb.mono (by have := HB0.out.size; have := stI_base HS.out; omega)))
  have HSV := hid_mk (stI_keep HS.out hvb)
  have HEV := hid_mk (HE.out.call hvb)
  clear hvb z0 z1 HC HS HE HB0
  generalize grow (redrawn W0 nq) osq = V at *
  have hq0 : V.cell? ⟨ob, 0, none⟩ = some (.slice (some ⟨g, 0, none⟩) s.tens.length c) := by rw [← HPL.out]; exact HSV.out.2.1.cell 0
  obtain ⟨B, d, hpv, hfb, hkb⟩ := ownT_keys (HSV.out.2.2.2.1 _ (List.getElem_mem hip))
  rw [HPI.out] at hpv hfb hkb
  dsimp only at hpv hfb hkb
  have hk3 : V.cell? ⟨g, i * 4 + 3, none⟩ = some (.slice B tk.length d) := by rw [stI_cell HSV.out hip (by decide)]; unfold rowT; rw [hpv]; rfl
  have HPV := hid_mk hpv
  have HNW : Hid ((Value.slice B tk.length d).ownBlock ≠ some w.heap.size) := hid_mk (by rw [← hpv]; exact HNW0.out _ (List.getElem_mem hip))
  have HC : Hid (∀ (x : Nat) os, Calls Try.prog 66 #[.slice B tk.length d, .int .i64 num, .func (.func 67) #[] #[]] (grow (redrawn V x) os) (fun e w'' => e = .returned (.tuple #[.int .i64 (j : Int), .bool false]) ∧ ∃ p : Regrown, w'' = grow (redrawn V p.d) p.os)) := hid_mk (fun x os => by
    have hb := below_regrown V x os
    have h1 := binK_any tk B d num (fun b => base ≤ b ∧ b < V.heap.size) (grow (redrawn V x) os) (fun b hb' => Nat.lt_of_lt_of_le hb'.2 hb.size) (by omega) (keysAt_keep hkb (fun b h => h) (kept_below hb (fun b h => h.2))) HKR.out
    rw [HHK.out, HSK.out] at h1
    exact regrown_call h1)
  clear hpv hfb hkb
  have z3 : ∀ x os, (grow (redrawn V x) os).cell? ⟨g, i * 4 + 3, none⟩ = some (.slice B tk.length d) := fun x os => cell_regrown hk3 x os
  have z2 : ∀ x os, (grow (redrawn V x) os).cell? ⟨w.heap.size, 2, none⟩ = some (.int .i64 num) := fun x os => cell_regrown (HEV.out.cell 2) x os
  clear hk3
  go_wp2
  (refine wp_region_quiet_below (by kernel_rfl) (by kernel_rfl) ?_; (repeat (first | go_big_quiet_step ((go_at_call 66; exact HC.out _ _)) | quiet_step ((go_at_call 66; exact HC.out _ _)))); refine wpQuiet_nil ?_; intro _ hw'; obtain ⟨⟨nq, osq⟩, hw''⟩ := hw'; subst hw'')
  have hvb := below_regrown V nq osq
  have HBX := hid_mk (HBV.out.trans (hvb.mono (by have := HBV.out.size; have := stI_base HSV.out; omega)))
  have HSX := hid_mk (stI_keep HSV.out hvb)
  have HEX := hid_mk (HEV.out.call hvb)
  clear hvb z2 z3 HC HSV HEV HBV hq0
  generalize grow (redrawn V nq) osq = X at *
  have hk2 : X.cell? ⟨g, i * 4 + 2, none⟩ = some (.int .i64 tx) := by rw [stI_cell HSX.out hip (by decide)]; unfold rowT; rw [HPI.out]; rfl
  have hk3 : X.cell? ⟨g, i * 4 + 3, none⟩ = some (.slice B tk.length d) := by rw [stI_cell HSX.out hip (by decide)]; unfold rowT; rw [HPV.out]; rfl
  have he0 : X.cell? ⟨w.heap.size, 0, none⟩ = some (.int .i64 2) := HEX.out.cell 0
  have he2 : X.cell? ⟨w.heap.size, 2, none⟩ = some (.int .i64 num) := HEX.out.cell 2
  have he4 : X.cell? ⟨w.heap.size, 4, none⟩ = some (.string txt) := HEX.out.cell 4
  have hkf := stI_frozen HSX.out
  have f1 : decide (tx ≤ num) = false := decide_eq_false (by omega)
  have h8a : ((tk.length : Int) == 8) = false := by rw [beq_eq_false_iff_ne]; omega
  have h8b : ¬ (tk.length : Int) = 8 := by omega
  go_wp2
  have y2 : ∀ x os, (grow (redrawn X x) os).cell? ⟨g, i * 4 + 2, none⟩ = some (.int .i64 tx) := fun x os => cell_regrown hk2 x os
  have ye : ∀ x os, (grow (redrawn X x) os).cell? ⟨w.heap.size, 2, none⟩ = some (.int .i64 num) := fun x os => cell_regrown he2 x os
  (refine wp_region_quiet_below (by kernel_rfl) (by kernel_rfl) ?_; (repeat (first | go_big_quiet_step (fail) | quiet_step (fail))); refine wpQuiet_nil ?_; intro _ hw'; obtain ⟨⟨nq, osq⟩, hw''⟩ := hw'; subst hw'')
  have hvb := below_regrown X nq osq
  have HBY := hid_mk (HBX.out.trans (hvb.mono (by have := HBX.out.size; have := stI_base HSX.out; omega)))
  have HSY := hid_mk (stI_keep HSX.out hvb)
  have HEY := hid_mk (HEX.out.call hvb)
  clear hvb y2 ye HSX HEX HBX hk2 hk3 he0 he2 he4 hkf
  generalize grow (redrawn X nq) osq = Y at *
  have hk3 : Y.cell? ⟨g, i * 4 + 3, none⟩ = some (.slice B tk.length d) := by rw [stI_cell HSY.out hip (by decide)]; unfold rowT; rw [HPV.out]; rfl
  have hkf := stI_frozen HSY.out
  go_wp2
  have zb3 : ∀ p : InB (fun x => Blk x w.heap.size #[.int .i64 2, .string ten, .int .i64 num, .int .i64 epoch, .string txt] 26 ∧ x.cell? ⟨g, i * 4 + 3, none⟩ = some (.slice B tk.length d) ∧ ∀ r, x.frozen? ⟨g, r, none⟩ = false), p.w.cell? ⟨g, i * 4 + 3, none⟩ = some (.slice B tk.length d) := fun p => p.ok.2.1
  have zb2 : ∀ p : InB (fun x => Blk x w.heap.size #[.int .i64 2, .string ten, .int .i64 num, .int .i64 epoch, .string txt] 26 ∧ x.cell? ⟨g, i * 4 + 3, none⟩ = some (.slice B tk.length d) ∧ ∀ r, x.frozen? ⟨g, r, none⟩ = false), p.w.cell? ⟨w.heap.size, 2, none⟩ = some (.int .i64 num) := fun p => p.ok.1.cell 2
  have zb4 : ∀ p : InB (fun x => Blk x w.heap.size #[.int .i64 2, .string ten, .int .i64 num, .int .i64 epoch, .string txt] 26 ∧ x.cell? ⟨g, i * 4 + 3, none⟩ = some (.slice B tk.length d) ∧ ∀ r, x.frozen? ⟨g, r, none⟩ = false), p.w.cell? ⟨w.heap.size, 4, none⟩ = some (.string txt) := fun p => p.ok.1.cell 4
  (refine region_planT (S := Meets (fun x => Blk x w.heap.size #[.int .i64 2, .string ten, .int .i64 num, .int .i64 epoch, .string txt] 26 ∧ x.cell? ⟨g, i * 4 + 3, none⟩ = some (.slice B tk.length d) ∧ ∀ r, x.frozen? ⟨g, r, none⟩ = false)) (.read 0 _ (.read 1 _ (.read 2 _ (.read 3 _ (.read 4 _ (.read 5 _ (.read 6 _ (.read 7 _ (.read 8 _ (.read 9 _ (.read 10 _ (.one 11 _ (.one 12 _ .tail))))))))))))) 13 (by kernel_rfl) (by kernel_rfl) ⟨rfl, ⟨rfl, ⟨rfl, ⟨rfl, ⟨rfl, ⟨rfl, ⟨rfl, ⟨rfl, ⟨rfl, ⟨rfl, ⟨rfl, ⟨rfl, ⟨rfl, trivial⟩⟩⟩⟩⟩⟩⟩⟩⟩⟩⟩⟩⟩ (by kernel_rfl) (by kernel_rfl) (by kernel_rfl) (by kernel_rfl) (fun d v c a w h => by cases d <;> exact h) (meets_mk ?_) ?_)
  · exact ⟨HEY.out, hk3, hkf⟩
  intro J hJ
  have HJ := hid_mk hJ
  clear hJ hk3 hkf
  (repeat (refine planWp_read (fun K hK => ?_); go_simp; (first | (refine hK _ ?_; clear hK K) | (apply Exists.intro; refine ⟨fun _ => rfl, hK _ ?_⟩; clear hK K))))
  obtain ⟨Y1, hY1⟩ : ∃ Y1, Y1 = (Y.alloc (.cells #[.int .i64 num, .string txt] 44)).drew := ⟨_, rfl⟩
  have hby1 : Below Y.heap.size Y Y1 := by rw [hY1]; exact ((Below.refl _ _).alloc (Nat.le_refl _) _).drew
  have hs1 := stI_keep HSY.out hby1
  have hvb1 : Y1.heap[Y.heap.size]? = some (.cells #[.int .i64 num, .string txt] 44 (0, 0)) := by rw [hY1]; exact heap_alloc_new Y _
  have howt := hs1.2.2.2.1 _ (List.getElem_mem hip)
  obtain ⟨hown, hnm, htxs⟩ := howt
  rw [HPI.out, HPV.out] at hown
  rw [HPI.out] at hnm htxs
  dsimp only at hown hnm htxs
  have hblt := fun b e => ((HSY.out.2.2.2.1 _ (List.getElem_mem hip)).1.lt b e).2
  rw [HPV.out] at hblt
  have hcall := insK_any (.slice B tk.length d) tk.length j (tk.flatMap keyV) [.int .i64 num, .string txt] Y.heap.size base Y1 hown hjl (by omega) rfl (fun u hu => by simp at hu; rcases hu with rfl | rfl <;> rfl) hvb1
    (fun e => by have := hblt _ e; omega) (by have := stI_base hs1; omega) (keyV_one tk)
  have hk3 : Y1.cell? ⟨g, i * 4 + 3, none⟩ = some (.slice B tk.length d) := by rw [stI_cell hs1 hip (by decide)]; unfold rowT; rw [HPV.out]; rfl
  have hkf := stI_frozen hs1
  have HCALL := hid_mk hcall
  have HS1 := hid_mk hs1
  have HBY1 := hid_mk (HBY.out.trans (hby1.mono (by have := stI_base HSY.out; omega)))
  have HE1 := hid_mk (HEY.out.call hby1)
  have HYY := hid_mk (show Y.heap.size < Y1.heap.size by rw [hY1]; simp)
  have HWY := hid_mk HEY.out.lt
  have hY1' := hid_mk hY1
  have HTX := hid_mk htxs
  have HBL := hid_mk hblt
  clear hcall hs1 hvb1 hby1 hY1 hown htxs hnm hblt
  refine planWp_value (.slice (some ⟨Y.heap.size, 0, none⟩) 1 1) rfl (w' := Y1) (by rw [hY1'.out]; go_simp) (meets_mk ⟨HE1.out, hk3, hkf⟩) ?_
  refine planWp_call 69 #[.slice B tk.length d, .int .i64 j, .slice (some ⟨Y.heap.size, 0, none⟩) 1 1] _ rfl (by go_simp) HCALL.out ?_
  rintro e w1 ⟨u', rfl, hown, hgr, hat⟩
  obtain ⟨Au, cu, rfl⟩ := own_slice hown
  have hk8' : (Rn.ins tk j ⟨num, txt⟩).length = tk.length + 1 := Rn.ins_length hjl
  have hown2 : w1.ownsRow base 44 2 (.slice Au (tk.length + 1) cu) (Rn.ins tk j ⟨num, txt⟩).length ((Rn.ins tk j ⟨num, txt⟩).flatMap keyV) := by
    rw [hk8', ← flat_ins keyV_len]; exact hown
  have HK := hid_mk (stI_keys (t := ⟨tn, te, tx, Rn.ins tk j ⟨num, txt⟩⟩) HS1.out hip (by have := stI_base HS1.out; omega) (by rw [HPI.out]) (by rw [HPI.out]) (by rw [HPI.out]) (fun k hk => by
    rcases Rn.mem_ins.1 hk with rfl | hk
    · exact htx
    · exact HTX.out k hk) hown2 (by rw [HPV.out]; exact hgr) (by rw [HPV.out]; exact hat))
  have hap := (stI_apart HS1.out (List.getElem_mem hip)).2
  rw [HPV.out] at hap
  have hgb : w1.heap[g]? = Y1.heap[g]? := hgr.block g (by have := HBY1.out.size; omega) (fun e => by
    rcases hap with h | h
    · cases h
    · exact h e)
  have hj3 : w1.cell? ⟨g, i * 4 + 3, none⟩ = some (.slice B tk.length d) := by rw [World.cell?_of_block hgb]; exact hk3
  have hjf : ∀ r, w1.frozen? ⟨g, r, none⟩ = false := fun r => by rw [World.frozen?_of_block hgb]; exact hkf r
  have hwb : w1.heap[w.heap.size]? = Y1.heap[w.heap.size]? := hgr.block _ (by have := HYY.out; have := HWY.out; omega) (fun e => HNW.out e.symm)
  have HE2 := hid_mk (show Blk w1 w.heap.size #[.int .i64 2, .string ten, .int .i64 num, .int .i64 epoch, .string txt] 26 from hwb.trans HE1.out)
  have HR := hid_mk (HBY1.out.trans HK.out.2)
  refine ⟨_, rfl, meets_mk ⟨HE2.out, hj3, hjf⟩, planWp_tail (HJ.out _ _ (meets_mk ⟨HE2.out, hj3, hjf⟩) ?_)⟩
  simp only [List.drop_succ_cons, List.drop_zero]
  clear hgb hap hown hown2 hgr hat hk8' HCALL hk3 hkf hwb HJ zb2 zb3 zb4
  go_wp2
  go_ret
  exact ⟨rfl, HR.out, fun t h => by cases h; exact ⟨_, _, HK.out.1⟩⟩
end Go.Proofs.Ytgcgilcalmefgaa
