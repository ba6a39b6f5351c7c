/- Walks: porterlaw38.works: the chapter's example. -/
import Derived.Test.YtgcgilcalmefgaaRnAm
import Derived.Test.YtgcgilcalmefgaaRnL
namespace Go.Proofs.Ytgcgilcalmefgaa
open Go Go.RowKit Go.Sort
set_option maxRecDepth 100000
set_option linter.unusedSimpArgs false
set_option linter.unusedVariables false
set_option maxHeartbeats 4000000
def wkS : Rn.S := ⟨[⟨⟨#[97, 99, 109, 101]⟩, 0, 2, [⟨1, ⟨#[48, 49, 50, 51, 52, 53, 54, 55, 56, 57, 97, 98, 99, 100, 101, 102, 48, 49, 50, 51, 52, 53, 54, 55, 56, 57, 97, 98, 99, 100, 101, 102]⟩⟩]⟩], 0⟩
theorem wk_all : Rn.all Rn.zeroS [⟨1, ⟨#[97, 99, 109, 101]⟩, 2, 0, ⟨#[]⟩⟩, ⟨2, ⟨#[97, 99, 109, 101]⟩, 1, 0, ⟨#[48, 49, 50, 51, 52, 53, 54, 55, 56, 57, 97, 98, 99, 100, 101, 102, 48, 49, 50, 51, 52, 53, 54, 55, 56, 57, 97, 98, 99, 100, 101, 102]⟩⟩] = .ok wkS := by kernel_rfl
theorem wk_new : newRes wkS ⟨#[97, 99, 109, 101]⟩ = (⟨1, ⟨#[48, 49, 50, 51, 52, 53, 54, 55, 56, 57, 97, 98, 99, 100, 101, 102, 48, 49, 50, 51, 52, 53, 54, 55, 56, 57, 97, 98, 99, 100, 101, 102]⟩⟩, true) := by kernel_rfl
theorem wk_right : Rn.right wkS = true := by kernel_rfl
theorem works38_any (w : World) : Calls Try.prog 10 #[] w (RetG (.bool true) w) := by
  obtain ⟨W0, hW0⟩ : ∃ W0, W0 = w.alloc (.cells #[.int .i64 1, .string ⟨#[97, 99, 109, 101]⟩, .int .i64 2, .int .i64 0, .string ⟨#[]⟩, .int .i64 2, .string ⟨#[97, 99, 109, 101]⟩, .int .i64 1, .int .i64 0, .string ⟨#[48, 49, 50, 51, 52, 53, 54, 55, 56, 57, 97, 98, 99, 100, 101, 102, 48, 49, 50, 51, 52, 53, 54, 55, 56, 57, 97, 98, 99, 100, 101, 102]⟩] 26) := ⟨_, rfl⟩
  have hb0 : Below w.heap.size w W0 := by rw [hW0]; exact (Below.refl _ _).alloc (Nat.le_refl _) _
  have hB : Blk W0 w.heap.size #[.int .i64 1, .string ⟨#[97, 99, 109, 101]⟩, .int .i64 2, .int .i64 0, .string ⟨#[]⟩, .int .i64 2, .string ⟨#[97, 99, 109, 101]⟩, .int .i64 1, .int .i64 0, .string ⟨#[48, 49, 50, 51, 52, 53, 54, 55, 56, 57, 97, 98, 99, 100, 101, 102, 48, 49, 50, 51, 52, 53, 54, 55, 56, 57, 97, 98, 99, 100, 101, 102]⟩] 26 := by rw [hW0]; exact Blk.new w _ _
  have hE : EventsAt (fun b => b = w.heap.size) W0 (some ⟨w.heap.size, 0, none⟩) [⟨1, ⟨#[97, 99, 109, 101]⟩, 2, 0, ⟨#[]⟩⟩, ⟨2, ⟨#[97, 99, 109, 101]⟩, 1, 0, ⟨#[48, 49, 50, 51, 52, 53, 54, 55, 56, 57, 97, 98, 99, 100, 101, 102, 48, 49, 50, 51, 52, 53, 54, 55, 56, 57, 97, 98, 99, 100, 101, 102]⟩⟩] := fun _ => ⟨_, 0, rfl, rfl, fun k hk => by
    have hk2 : k < 2 := hk
    match k, hk2 with
    | 0, _ => exact ⟨_, ⟨rfl, (show (4 : Nat) ≤ maxLen by decide), (show (0 : Nat) ≤ maxLen by decide)⟩, fun j u hj => by
        simp only [Nat.zero_mul, Nat.zero_add]; rw [hB.cell]
        have h5 : j < 5 := (List.getElem?_eq_some_iff.1 hj).1
        match j, h5 with
        | 0, _ => exact hj
        | 1, _ => exact hj
        | 2, _ => exact hj
        | 3, _ => exact hj
        | 4, _ => exact hj⟩
    | 1, _ => exact ⟨_, ⟨rfl, (show (4 : Nat) ≤ maxLen by decide), (show (32 : Nat) ≤ maxLen by decide)⟩, fun j u hj => by
        simp only [Nat.one_mul, Nat.zero_add]; rw [hB.cell]
        have h5 : j < 5 := (List.getElem?_eq_some_iff.1 hj).1
        match j, h5 with
        | 0, _ => exact hj
        | 1, _ => exact hj
        | 2, _ => exact hj
        | 3, _ => exact hj
        | 4, _ => exact hj⟩⟩
  have HC := hide (pall_any Rn.zeroS [⟨1, ⟨#[97, 99, 109, 101]⟩, 2, 0, ⟨#[]⟩⟩, ⟨2, ⟨#[97, 99, 109, 101]⟩, 1, 0, ⟨#[48, 49, 50, 51, 52, 53, 54, 55, 56, 57, 97, 98, 99, 100, 101, 102, 48, 49, 50, 51, 52, 53, 54, 55, 56, 57, 97, 98, 99, 100, 101, 102]⟩⟩] none (some ⟨w.heap.size, 0, none⟩) 0 2 (fun b => b = w.heap.size) W0 (fun b h => by subst h; exact hB.lt) (by decide) Fits.none_ rows_nil (by decide) hE)
  rw [wk_all] at HC
  have HB0 := hid_mk hb0
  have HW0 := hid_mk hW0
  have hkq := fun w => key_eq_run ⟨1, ⟨#[48, 49, 50, 51, 52, 53, 54, 55, 56, 57, 97, 98, 99, 100, 101, 102, 48, 49, 50, 51, 52, 53, 54, 55, 56, 57, 97, 98, 99, 100, 101, 102]⟩⟩ w
  dsimp only at hkq
  clear hb0 hB hE hW0
  go_enter Try.func10, Try.ntmps10
  go_wp2_with fail
  rw [← HW0.out]
  refine (unhide HC).mono ?_
  rintro e w1 ⟨A, c, rfl, hf, hb1, hT⟩
  have HBW1 := hid_mk (HB0.out.trans (hb1.mono HB0.out.size))
  have hln : (Rn.state (Rn.R.ok wkS)).tens.length = 1 := rfl
  have hse : (Rn.state (Rn.R.ok wkS)).serial = 0 := rfl
  have hst : Rn.state (Rn.R.ok wkS) = wkS := rfl
  have her : Rn.err (Rn.R.ok wkS) = 0 := rfl
  rw [hln, hse, her]
  rw [hst] at hT
  have hG : ∀ b, (b = w.heap.size ∨ W0.heap.size ≤ b ∧ b < w1.heap.size) → b < w1.heap.size := fun b h => by
    rcases h with rfl | h
    · have := HB0.out.size; have := hb1.size; have hz : W0.heap.size = w.heap.size + 1 := by rw [HW0.out]; simp
      omega
    · exact h.2
  have HN := hide (fun V (hV : Below w1.heap.size w1 V) => pnew_any wkS A c ⟨#[97, 99, 109, 101]⟩ _ V (fun b h => Nat.lt_of_lt_of_le (hG b h) hV.size) (by decide) (tensAt_keep hT (fun b h => h) (kept_below hV hG)))
  have HRT := hide (fun V (hV : Below w1.heap.size w1 V) => pright_any wkS A c _ V (fun b h => Nat.lt_of_lt_of_le (hG b h) hV.size) (by decide) (tensAt_keep hT (fun b h => h) (kept_below hV hG)))
  rw [wk_new] at HN
  rw [wk_right] at HRT
  have hb2 : Below w1.heap.size w1 (w1.alloc (.cells #[.slice A 1 c, .int .i64 0] 24)) := (Below.refl _ _).alloc (Nat.le_refl _) _
  have HN2 := hide (unhide HN _ hb2)
  have HB2 := hid_mk hb2
  have HX1 := hid_mk (Blk.new w1 #[.slice A 1 c, .int .i64 0] 24)
  clear hf hb1 hT hln hse hst her hG HN hb2 HC
  go_wp2_with fail
  refine (unhide HN2).mono ?_
  rintro e w2 ⟨rfl, hb3⟩
  have HB3 := hid_mk (HB2.out.trans (hb3.mono HB2.out.size))
  have HX2 := hid_mk (HX1.out.call hb3)
  have hx2 := HX2.out
  (have x0 : w2.cell? ⟨w1.heap.size, 0, none⟩ = some (.slice A 1 c) := hx2.cell 0; have x1 : w2.cell? ⟨w1.heap.size, 1, none⟩ = some (.int .i64 0) := hx2.cell 1; have xf : ∀ i, w2.frozen? ⟨w1.heap.size, i, none⟩ = false := hx2.frozen)
  have hb4 : Below w1.heap.size w1 (w2.alloc (.cells #[.int .i64 1, .string ⟨#[48, 49, 50, 51, 52, 53, 54, 55, 56, 57, 97, 98, 99, 100, 101, 102, 48, 49, 50, 51, 52, 53, 54, 55, 56, 57, 97, 98, 99, 100, 101, 102]⟩] 44)) := HB3.out.alloc HB3.out.size _
  have HR2 := hide (unhide HRT _ hb4)
  have HB4 := hid_mk (HBW1.out.trans (hb4.mono HBW1.out.size))
  have hlt : w1.heap.size < w2.heap.size := hx2.lt
  clear hb3 hb4 hx2 HN2 HRT
  go_wp2_with fail
  refine (unhide HR2).mono ?_
  rintro e w3 ⟨rfl, hb5⟩
  have HB5 := hid_mk (HB4.out.trans (hb5.mono HB4.out.size))
  clear hb5 HR2
  go_wp2
  exact bodyPost_ret (v := .bool true) (by simp [results, Try.results10, go_sem]) rfl ⟨rfl, HB5.out⟩
end Go.Proofs.Ytgcgilcalmefgaa
