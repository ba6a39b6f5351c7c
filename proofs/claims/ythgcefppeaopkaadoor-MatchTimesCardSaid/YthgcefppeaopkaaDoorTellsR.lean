/- Walks: may a tree be? (the reference's) -/
import Derived.Test.YthgcefppeaopkaaDoorRightW
import Derived.Test.YthgcefppeaopkaaDoorOpenN
import Derived.BigQuiet
namespace Go.Proofs.YthgcefppeaopkaaDoor
open Go Go.RowKit Go.Sort
set_option maxRecDepth 100000
set_option linter.unusedSimpArgs false
set_option linter.unusedVariables false
set_option maxHeartbeats 4000000
theorem rtimes_any (lo hi : Int) (w : World) : Calls Tryd.prog 32 #[.int .i64 lo, .int .i64 hi] w (Ret (.bool (Rx.timesB lo hi)) w) := by
  by_cases h1 : lo < 0
  case pos =>
    have e : Rx.timesB lo hi = false := by simp [Rx.timesB]; omega
    rw [e]; clear e
    go_enter Tryd.func32, Tryd.ntmps32
    go_wp2
    exact bodyPost_ret (v := .bool false) (by simp [results, Tryd.results32, go_sem]) rfl ⟨rfl, rfl⟩
  by_cases h2 : 16 < lo
  case pos =>
    have e : Rx.timesB lo hi = false := by simp [Rx.timesB]; omega
    rw [e]; clear e
    go_enter Tryd.func32, Tryd.ntmps32
    go_wp2
    exact bodyPost_ret (v := .bool false) (by simp [results, Tryd.results32, go_sem]) rfl ⟨rfl, rfl⟩
  by_cases h3 : 16 < hi
  case pos =>
    have e : Rx.timesB lo hi = false := by simp [Rx.timesB]; omega
    rw [e]; clear e
    go_enter Tryd.func32, Tryd.ntmps32
    go_wp2
    exact bodyPost_ret (v := .bool false) (by simp [results, Tryd.results32, go_sem]) rfl ⟨rfl, rfl⟩
  by_cases h4 : hi < -1
  case pos =>
    have e : Rx.timesB lo hi = false := by simp [Rx.timesB]; omega
    rw [e]; clear e
    go_enter Tryd.func32, Tryd.ntmps32
    go_wp2
    exact bodyPost_ret (v := .bool false) (by simp [results, Tryd.results32, go_sem]) rfl ⟨rfl, rfl⟩
  have g1 : decide (lo < 0) = false := by simpa using h1
  have g2 : decide (16 < lo) = false := by simpa using h2
  have g3 : decide (16 < hi) = false := by simpa using h3
  have g4 : decide (hi < -1) = false := by simpa using h4
  by_cases h5 : hi = 0
  case pos =>
    have e : Rx.timesB lo hi = false := by simp [Rx.timesB]; omega
    rw [e]; clear e
    subst h5
    go_enter Tryd.func32, Tryd.ntmps32
    go_wp2
    exact bodyPost_ret (v := .bool false) (by simp [results, Tryd.results32, go_sem]) rfl ⟨rfl, rfl⟩
  have g5 : (hi == 0) = false := by simpa using h5
  by_cases h6 : hi = -1
  case pos =>
    have e : Rx.timesB lo hi = true := by simp [Rx.timesB]; omega
    rw [e]; clear e
    subst h6
    go_enter Tryd.func32, Tryd.ntmps32
    go_wp2
    exact bodyPost_ret (v := .bool true) (by simp [results, Tryd.results32, go_sem]) rfl ⟨rfl, rfl⟩
  have g6 : (hi == -1) = false := by simpa using h6
  by_cases h7 : lo ≤ hi
  case pos =>
    have e : Rx.timesB lo hi = true := by simp [Rx.timesB]; omega
    rw [e]; clear e
    go_enter Tryd.func32, Tryd.ntmps32
    go_wp2
    exact bodyPost_ret (v := .bool true) (by simp [results, Tryd.results32, go_sem]) rfl ⟨rfl, rfl⟩
  have e : Rx.timesB lo hi = false := by simp [Rx.timesB]; omega
  rw [e]; clear e
  have g7 : decide (lo ≤ hi) = false := by simpa using h7
  go_enter Tryd.func32, Tryd.ntmps32
  go_wp2
  exact bodyPost_ret (v := .bool false) (by simp [results, Tryd.results32, go_sem]) rfl ⟨rfl, rfl⟩
def RRightOk (x : Node) : Prop := ∀ (A : Option Addr) (ca : Nat) (G : Nat → Prop) (w : World), (∀ y, G y → y < w.heap.size) → SlOk A x.kids.length ca → KidsAt G w A x.kids → Calls Tryd.prog 17 #[.agg #[.int .i64 (x.kind), .int .u64 ((x.set).a.toNat : Int), .int .u64 ((x.set).b.toNat : Int), .int .u64 ((x.set).c.toNat : Int), .int .u64 ((x.set).d.toNat : Int), .slice (A) (x.kids.length) (ca), .int .i64 (x.min), .int .i64 (x.max)]] w (RetG (.bool (Rx.right x)) w)
theorem rright_k0 (S : CSet) (kids : List Node) (mn mx : Int) (hal : kids.length ≤ 2 ^ 63 - 1) (hih : ∀ x ∈ kids, RRightOk x) (A : Option Addr) (ca : Nat) (G : Nat → Prop) (w : World) (hG : ∀ x, G x → x < w.heap.size) (hka : KidsAt G w A kids) (kd : Int) (hk : kd < 1 ∨ 4 < kd) :
    Calls Tryd.prog 17 #[.agg #[.int .i64 (kd), .int .u64 ((S).a.toNat : Int), .int .u64 ((S).b.toNat : Int), .int .u64 ((S).c.toNat : Int), .int .u64 ((S).d.toNat : Int), .slice (A) (kids.length) (ca), .int .i64 (mn), .int .i64 (mx)]] w (RetG (.bool (Rx.right (.mk kd S kids mn mx))) w) := by
  have HIH := hid_mk hih
  have HG := hid_mk hG
  have HKA := hid_mk hka
  clear hG hka hih
  have HE : Hid (Rx.right (.mk kd S kids mn mx) = (Rx.topB kd S kids.length mn mx && Rx.rights kd kids)) := hid_mk (by rw [Rx.right])
  generalize Rx.right (.mk kd S kids mn mx) = R at *
  by_cases hk0 : kd < 1
  case pos =>
    have hn1 : ¬ kd = 1 := by omega
    have hn2 : ¬ kd = 2 := by omega
    have hn3 : ¬ kd = 3 := by omega
    have hn4 : ¬ kd = 4 := by omega
    go_enter Tryd.func17, Tryd.ntmps17
    go_wp2
    refine bodyPost_ret (v := .bool false) (by simp [results, Tryd.results17, go_sem]) rfl ?_
    exact ret_boolG (by rw [HE.out]; simp [Rx.topB, hn1, hn2, hn3, hn4]) (by repeat (first | with_reducible exact Below.refl _ _ | with_reducible assumption | with_reducible refine Below.setCell ?_ (by first | omega | (dsimp only; omega) | (simp <;> omega)) _ | with_reducible refine Below.alloc ?_ (by first | omega | (simp <;> omega)) _ | with_reducible refine below_drewN ?_ _ | with_reducible refine Below.drew ?_))
  have b0 : decide (kd < 1) = false := by simpa using hk0
  have hk5 : 4 < kd := by omega
  have hn1 : ¬ kd = 1 := by omega
  have hn2 : ¬ kd = 2 := by omega
  have hn3 : ¬ kd = 3 := by omega
  have hn4 : ¬ kd = 4 := by omega
  go_enter Tryd.func17, Tryd.ntmps17
  go_wp2
  refine bodyPost_ret (v := .bool false) (by simp [results, Tryd.results17, go_sem]) rfl ?_
  exact ret_boolG (by rw [HE.out]; simp [Rx.topB, hn1, hn2, hn3, hn4]) (by repeat (first | with_reducible exact Below.refl _ _ | with_reducible assumption | with_reducible refine Below.setCell ?_ (by first | omega | (dsimp only; omega) | (simp <;> omega)) _ | with_reducible refine Below.alloc ?_ (by first | omega | (simp <;> omega)) _ | with_reducible refine below_drewN ?_ _ | with_reducible refine Below.drew ?_))
theorem rright_k1 (S : CSet) (kids : List Node) (mn mx : Int) (hal : kids.length ≤ 2 ^ 63 - 1) (hih : ∀ x ∈ kids, RRightOk x) (A : Option Addr) (ca : Nat) (G : Nat → Prop) (w : World) (hG : ∀ x, G x → x < w.heap.size) (hka : KidsAt G w A kids) :
    Calls Tryd.prog 17 #[.agg #[.int .i64 (1), .int .u64 ((S).a.toNat : Int), .int .u64 ((S).b.toNat : Int), .int .u64 ((S).c.toNat : Int), .int .u64 ((S).d.toNat : Int), .slice (A) (kids.length) (ca), .int .i64 (mn), .int .i64 (mx)]] w (RetG (.bool (Rx.right (.mk 1 S kids mn mx))) w) := by
  have HIH := hid_mk hih
  have HG := hid_mk hG
  have HKA := hid_mk hka
  clear hG hka hih
  have HE : Hid (Rx.right (.mk 1 S kids mn mx) = (Rx.topB 1 S kids.length mn mx && Rx.rights 1 kids)) := hid_mk (by rw [Rx.right])
  generalize Rx.right (.mk 1 S kids mn mx) = R at *
  by_cases hmn : mn = 0
  case neg =>
    have hmb : (mn != 0) = true := by simpa using hmn
    go_enter Tryd.func17, Tryd.ntmps17
    go_wp2
    refine bodyPost_ret (v := .bool false) (by simp [results, Tryd.results17, go_sem]) rfl ?_
    exact ret_boolG (by rw [HE.out]; simp [Rx.topB, hmn]) (by repeat (first | with_reducible exact Below.refl _ _ | with_reducible assumption | with_reducible refine Below.setCell ?_ (by first | omega | (dsimp only; omega) | (simp <;> omega)) _ | with_reducible refine Below.alloc ?_ (by first | omega | (simp <;> omega)) _ | with_reducible refine below_drewN ?_ _ | with_reducible refine Below.drew ?_))
  by_cases hmx : mx = 0
  case neg =>
    subst hmn
    have hxb : (mx != 0) = true := by simpa using hmx
    go_enter Tryd.func17, Tryd.ntmps17
    go_wp2
    refine bodyPost_ret (v := .bool false) (by simp [results, Tryd.results17, go_sem]) rfl ?_
    exact ret_boolG (by rw [HE.out]; simp [Rx.topB, hmx]) (by repeat (first | with_reducible exact Below.refl _ _ | with_reducible assumption | with_reducible refine Below.setCell ?_ (by first | omega | (dsimp only; omega) | (simp <;> omega)) _ | with_reducible refine Below.alloc ?_ (by first | omega | (simp <;> omega)) _ | with_reducible refine below_drewN ?_ _ | with_reducible refine Below.drew ?_))
  subst hmn hmx
  by_cases hln : kids.length = 0
  case neg =>
    have g : (kids.length != 0) = true := bne_iff_ne.2 hln
    have g2 : ((kids.length : Int) != 0) = true := bne_iff_ne.2 (by omega)
    go_enter Tryd.func17, Tryd.ntmps17
    go_wp2
    refine bodyPost_ret (v := .bool false) (by simp [results, Tryd.results17, go_sem]) rfl ?_
    exact ret_boolG (by rw [HE.out]; simp [Rx.topB, hln]) (by repeat (first | with_reducible exact Below.refl _ _ | with_reducible assumption | with_reducible refine Below.setCell ?_ (by first | omega | (dsimp only; omega) | (simp <;> omega)) _ | with_reducible refine Below.alloc ?_ (by first | omega | (simp <;> omega)) _ | with_reducible refine below_drewN ?_ _ | with_reducible refine Below.drew ?_))
  have g : (kids.length != 0) = false := by rw [hln]; rfl
  have g2 : ((kids.length : Int) != 0) = false := by rw [hln]; rfl
  have HLN := hid_mk hln
  clear hln
  have HT : Hid (Rx.topB 1 S kids.length 0 0 = true) := hid_mk (by simp [Rx.topB, HLN.out])
  go_enter Tryd.func17, Tryd.ntmps17
  go_wp2
  go_loopw [5] (fun v wr => PRightAt 1 kids ((w.alloc (.cells #[.int .i64 (1), .int .u64 ((S).a.toNat : Int), .int .u64 ((S).b.toNat : Int), .int .u64 ((S).c.toNat : Int), .int .u64 ((S).d.toNat : Int), .slice (A) (kids.length) (ca), .int .i64 (0), .int .i64 (0)] 28)).alloc (.cells #[.int .u64 0, .int .u64 0, .int .u64 0, .int .u64 0] 25)) v wr) (fun v _ => kids.length - (intOf v).toNat)
  case atStart => exact ⟨0, rfl, Nat.zero_le _, rfl, Below.refl _ _⟩
  case round =>
    obtain ⟨k, rfl, hk, htk, hbw⟩ := hrel
    have HTK := hid_mk htk
    have hbw0 : Below w.heap.size w wr := (show Below w.heap.size w ((w.alloc (.cells #[.int .i64 (1), .int .u64 ((S).a.toNat : Int), .int .u64 ((S).b.toNat : Int), .int .u64 ((S).c.toNat : Int), .int .u64 ((S).d.toNat : Int), .slice (A) (kids.length) (ca), .int .i64 (0), .int .i64 (0)] 28)).alloc (.cells #[.int .u64 0, .int .u64 0, .int .u64 0, .int .u64 0] 25)) from (by repeat (first | with_reducible exact Below.refl _ _ | with_reducible assumption | with_reducible refine Below.setCell ?_ (by first | omega | (dsimp only; omega) | (simp <;> omega)) _ | with_reducible refine Below.alloc ?_ (by first | omega | (simp <;> omega)) _ | with_reducible refine below_drewN ?_ _ | with_reducible refine Below.drew ?_))).trans (hbw.mono (by first | omega | (simp; omega) | simp))
    have hxa : Blk wr w.heap.size #[.int .i64 (1), .int .u64 ((S).a.toNat : Int), .int .u64 ((S).b.toNat : Int), .int .u64 ((S).c.toNat : Int), .int .u64 ((S).d.toNat : Int), .slice (A) (kids.length) (ca), .int .i64 (0), .int .i64 (0)] 28 := (Blk.alloc (Blk.new w _ _) _).below hbw (by simp; omega)
    have hsz := hbw.size
    clear htk
    by_cases hlt : k < kids.length
    · have hka := kids_two HKA.out hbw0 HG.out
      obtain ⟨ba, oa, A', ca', hAE, hga, hsa', hka', hca⟩ := kidsAt_at hka hlt
      subst hAE
      have HIX := hid_mk (HIH.out kids[k] (List.getElem_mem hlt))
      have HNO := hid_mk (rights_bad (kd := 1) hlt)
      have HOK := hid_mk (rights_good (kd := 1) hlt HTK.out)
      generalize kids[k] = x at *
      have HC : Hid (∀ d os, Calls Tryd.prog 17 #[.agg #[.int .i64 (x.kind), .int .u64 ((x.set).a.toNat : Int), .int .u64 ((x.set).b.toNat : Int), .int .u64 ((x.set).c.toNat : Int), .int .u64 ((x.set).d.toNat : Int), .slice (A') (x.kids.length) (ca'), .int .i64 (x.min), .int .i64 (x.max)]] (grow (redrawn wr d) os) (fun e w'' => e = .returned (.bool (Rx.right x)) ∧ ∃ p : Regrown, w'' = grow (redrawn wr p.d) p.os)) := hid_mk (fun d os => retG_qq (HIX.out A' ca' G (grow (redrawn wr d) os) (fun b hb => Nat.lt_of_lt_of_le (HG.out b hb) (Nat.le_trans hbw0.size (below_regrown wr d os).size)) hsa' (kidsAt_keep (below_keeps (below_regrown wr d os) (fun b hb => Nat.lt_of_lt_of_le (HG.out b hb) hbw0.size)) (fun b h => h) hka')))
      have za0 : ∀ d os, (grow (redrawn wr d) os).cell? ⟨ba, oa + k * 8, none⟩ = some (.int .i64 x.kind) := fun d os => cell_regrown (hca 0 _ rfl) d os
      have za1 : ∀ d os, (grow (redrawn wr d) os).cell? ⟨ba, oa + k * 8 + 1, none⟩ = some (.int .u64 (x.set.a.toNat : Int)) := fun d os => cell_regrown (hca 1 _ rfl) d os
      have za2 : ∀ d os, (grow (redrawn wr d) os).cell? ⟨ba, oa + k * 8 + 2, none⟩ = some (.int .u64 (x.set.b.toNat : Int)) := fun d os => cell_regrown (hca 2 _ rfl) d os
      have za3 : ∀ d os, (grow (redrawn wr d) os).cell? ⟨ba, oa + k * 8 + 3, none⟩ = some (.int .u64 (x.set.c.toNat : Int)) := fun d os => cell_regrown (hca 3 _ rfl) d os
      have za4 : ∀ d os, (grow (redrawn wr d) os).cell? ⟨ba, oa + k * 8 + 4, none⟩ = some (.int .u64 (x.set.d.toNat : Int)) := fun d os => cell_regrown (hca 4 _ rfl) d os
      have za5 : ∀ d os, (grow (redrawn wr d) os).cell? ⟨ba, oa + k * 8 + 5, none⟩ = some (.slice A' x.kids.length ca') := fun d os => cell_regrown (hca 5 _ rfl) d os
      have za6 : ∀ d os, (grow (redrawn wr d) os).cell? ⟨ba, oa + k * 8 + 6, none⟩ = some (.int .i64 x.min) := fun d os => cell_regrown (hca 6 _ rfl) d os
      have za7 : ∀ d os, (grow (redrawn wr d) os).cell? ⟨ba, oa + k * 8 + 7, none⟩ = some (.int .i64 x.max) := fun d os => cell_regrown (hca 7 _ rfl) d os
      have qa : ∀ d os, (grow (redrawn wr d) os).cell? ⟨w.heap.size, 5, none⟩ = some (.slice (some ⟨ba, oa, none⟩) kids.length ca) := fun d os => cell_regrown (hxa.cell 5) d os
      have q0 : ∀ d os, (grow (redrawn wr d) os).cell? ⟨w.heap.size, 0, none⟩ = some (.int .i64 1) := fun d os => cell_regrown (hxa.cell 0) d os
      have HBW := hid_mk hbw
      have HBW0 := hid_mk hbw0
      clear hbw hbw0 hka hka' hca hxa HIX
      cases hx : Rx.right x with
      | false =>
        rw [hx] at HC HNO
        have HRF : Hid (R = false) := hid_mk (by rw [HE.out, HNO.out rfl, Bool.and_false])
        clear hx HOK HNO
        go_wp2
        (refine wp_region_quiet_below (by kernel_rfl) (by kernel_rfl) ?_; (repeat (first | go_big_quiet_step ((go_at_call 17; with_reducible exact HC.out _ _)) | quiet_step ((go_at_call 17; with_reducible exact HC.out _ _)))); refine wpQuiet_nil ?_; intro _ hw'; obtain ⟨⟨nq, osq⟩, hw''⟩ := hw'; subst hw'')
        have HBX := hid_mk (HBW0.out.trans ((below_regrown wr nq osq).mono HBW0.out.size))
        generalize grow (redrawn wr nq) osq = V at *
        go_wp2
        refine bodyPost_ret (v := .bool false) (by simp [results, Tryd.results17, go_sem]) rfl ?_
        exact ret_boolG HRF.out.symm HBX.out
      | true =>
        rw [hx] at HC HNO HOK
        clear hx
        by_cases hkk : x.kind = 1
        · have e1 : (x.kind == 1) = true := by simpa using hkk
          have HRF : Hid (R = false) := hid_mk (by rw [HE.out, HNO.out (by rw [e1]; rfl), Bool.and_false])
          clear hkk HNO HOK
          go_wp2
          (refine wp_region_quiet_below (by kernel_rfl) (by kernel_rfl) ?_; (repeat (first | go_big_quiet_step ((go_at_call 17; with_reducible exact HC.out _ _)) | quiet_step ((go_at_call 17; with_reducible exact HC.out _ _)))); refine wpQuiet_nil ?_; intro _ hw'; obtain ⟨⟨nq, osq⟩, hw''⟩ := hw'; subst hw'')
          have HBX := hid_mk (HBW0.out.trans ((below_regrown wr nq osq).mono HBW0.out.size))
          generalize grow (redrawn wr nq) osq = V at *
          go_wp2
          refine bodyPost_ret (v := .bool false) (by simp [results, Tryd.results17, go_sem]) rfl ?_
          exact ret_boolG HRF.out.symm HBX.out
        · have e1 : (x.kind == 1) = false := by simpa using hkk
          have HT2 := hid_mk (HOK.out (by rw [e1]; rfl))
          clear hkk HNO HOK
          go_wp2
          (refine wp_region_quiet_below (by kernel_rfl) (by kernel_rfl) ?_; (repeat (first | go_big_quiet_step ((go_at_call 17; with_reducible exact HC.out _ _)) | quiet_step ((go_at_call 17; with_reducible exact HC.out _ _)))); refine wpQuiet_nil ?_; intro _ hw'; obtain ⟨⟨nq, osq⟩, hw''⟩ := hw'; subst hw'')
          have HBX := hid_mk (HBW.out.trans ((below_regrown wr nq osq).mono HBW.out.size))
          generalize grow (redrawn wr nq) osq = V at *
          go_wp2
          go_roundw
          case rel => exact ⟨k + 1, by go_num, by omega, HT2.out, HBX.out⟩
          case measure => simp [intOf]; omega
    · have hkl : k = kids.length := by omega
      subst hkl
      have HB0 := hid_mk hbw0
      have HTT : Hid (Rx.rights 1 kids = true) := hid_mk (by have := HTK.out; rwa [List.take_length] at this)
      clear hbw hbw0 hxa HTK
      go_wp2
      refine bodyPost_ret (v := .bool true) (by simp [results, Tryd.results17, go_sem]) rfl ?_
      exact ret_boolG (by rw [HE.out, HT.out, HTT.out]; rfl) HB0.out
theorem rright_k2 (S : CSet) (kids : List Node) (mn mx : Int) (hal : kids.length ≤ 2 ^ 63 - 1) (hih : ∀ x ∈ kids, RRightOk x) (A : Option Addr) (ca : Nat) (G : Nat → Prop) (w : World) (hG : ∀ x, G x → x < w.heap.size) (hka : KidsAt G w A kids) :
    Calls Tryd.prog 17 #[.agg #[.int .i64 (2), .int .u64 ((S).a.toNat : Int), .int .u64 ((S).b.toNat : Int), .int .u64 ((S).c.toNat : Int), .int .u64 ((S).d.toNat : Int), .slice (A) (kids.length) (ca), .int .i64 (mn), .int .i64 (mx)]] w (RetG (.bool (Rx.right (.mk 2 S kids mn mx))) w) := by
  have HIH := hid_mk hih
  have HG := hid_mk hG
  have HKA := hid_mk hka
  clear hG hka hih
  have HE : Hid (Rx.right (.mk 2 S kids mn mx) = (Rx.topB 2 S kids.length mn mx && Rx.rights 2 kids)) := hid_mk (by rw [Rx.right])
  generalize Rx.right (.mk 2 S kids mn mx) = R at *
  by_cases hS : S = CSet.empty
  case neg =>
    have hse : ∀ w, (Op.equalIn 10000 25 (.agg #[.int .u64 ((S).a.toNat : Int), .int .u64 ((S).b.toNat : Int), .int .u64 ((S).c.toNat : Int), .int .u64 ((S).d.toNat : Int)]) (.agg #[.int .u64 0, .int .u64 0, .int .u64 0, .int .u64 0])).run Tryd.prog w = .ok false w := fun w => by rw [set_none, decide_eq_false hS]
    go_enter Tryd.func17, Tryd.ntmps17
    go_wp2
    refine bodyPost_ret (v := .bool false) (by simp [results, Tryd.results17, go_sem]) rfl ?_
    exact ret_boolG (by rw [HE.out]; simp [Rx.topB, hS]) (by repeat (first | with_reducible exact Below.refl _ _ | with_reducible assumption | with_reducible refine Below.setCell ?_ (by first | omega | (dsimp only; omega) | (simp <;> omega)) _ | with_reducible refine Below.alloc ?_ (by first | omega | (simp <;> omega)) _ | with_reducible refine below_drewN ?_ _ | with_reducible refine Below.drew ?_))
  have hse : ∀ w, (Op.equalIn 10000 25 (.agg #[.int .u64 ((S).a.toNat : Int), .int .u64 ((S).b.toNat : Int), .int .u64 ((S).c.toNat : Int), .int .u64 ((S).d.toNat : Int)]) (.agg #[.int .u64 0, .int .u64 0, .int .u64 0, .int .u64 0])).run Tryd.prog w = .ok true w := fun w => by rw [set_none, decide_eq_true hS]
  have HS := hid_mk hS
  clear hS
  by_cases hmn : mn = 0
  case neg =>
    have hmb : (mn != 0) = true := by simpa using hmn
    go_enter Tryd.func17, Tryd.ntmps17
    go_wp2
    refine bodyPost_ret (v := .bool false) (by simp [results, Tryd.results17, go_sem]) rfl ?_
    exact ret_boolG (by rw [HE.out]; simp [Rx.topB, HS.out, hmn]) (by repeat (first | with_reducible exact Below.refl _ _ | with_reducible assumption | with_reducible refine Below.setCell ?_ (by first | omega | (dsimp only; omega) | (simp <;> omega)) _ | with_reducible refine Below.alloc ?_ (by first | omega | (simp <;> omega)) _ | with_reducible refine below_drewN ?_ _ | with_reducible refine Below.drew ?_))
  by_cases hmx : mx = 0
  case neg =>
    subst hmn
    have hxb : (mx != 0) = true := by simpa using hmx
    go_enter Tryd.func17, Tryd.ntmps17
    go_wp2
    refine bodyPost_ret (v := .bool false) (by simp [results, Tryd.results17, go_sem]) rfl ?_
    exact ret_boolG (by rw [HE.out]; simp [Rx.topB, HS.out, hmx]) (by repeat (first | with_reducible exact Below.refl _ _ | with_reducible assumption | with_reducible refine Below.setCell ?_ (by first | omega | (dsimp only; omega) | (simp <;> omega)) _ | with_reducible refine Below.alloc ?_ (by first | omega | (simp <;> omega)) _ | with_reducible refine below_drewN ?_ _ | with_reducible refine Below.drew ?_))
  subst hmn hmx
  by_cases hln : kids.length = 1
  case pos =>
    have g : (kids.length == 1) = true := beq_iff_eq.2 hln
    have g2 : ((kids.length : Int) == 1) = true := beq_iff_eq.2 (by omega)
    have HLN := hid_mk hln
    clear hln
    go_enter Tryd.func17, Tryd.ntmps17
    go_wp2
    refine bodyPost_ret (v := .bool false) (by simp [results, Tryd.results17, go_sem]) rfl ?_
    exact ret_boolG (by rw [HE.out]; simp [Rx.topB, HS.out, HLN.out]) (by repeat (first | with_reducible exact Below.refl _ _ | with_reducible assumption | with_reducible refine Below.setCell ?_ (by first | omega | (dsimp only; omega) | (simp <;> omega)) _ | with_reducible refine Below.alloc ?_ (by first | omega | (simp <;> omega)) _ | with_reducible refine below_drewN ?_ _ | with_reducible refine Below.drew ?_))
  have g : (kids.length == 1) = false := beq_eq_false_iff_ne.2 hln
  have g2 : ((kids.length : Int) == 1) = false := beq_eq_false_iff_ne.2 (by omega)
  have HT : Hid (Rx.topB 2 S kids.length 0 0 = true) := hid_mk (by simp [Rx.topB, HS.out, hln])
  go_enter Tryd.func17, Tryd.ntmps17
  go_wp2
  go_loopw [5] (fun v wr => PRightAt 2 kids ((w.alloc (.cells #[.int .i64 (2), .int .u64 ((S).a.toNat : Int), .int .u64 ((S).b.toNat : Int), .int .u64 ((S).c.toNat : Int), .int .u64 ((S).d.toNat : Int), .slice (A) (kids.length) (ca), .int .i64 (0), .int .i64 (0)] 28)).alloc (.cells #[.int .u64 0, .int .u64 0, .int .u64 0, .int .u64 0] 25)) v wr) (fun v _ => kids.length - (intOf v).toNat)
  case atStart => exact ⟨0, rfl, Nat.zero_le _, rfl, Below.refl _ _⟩
  case round =>
    obtain ⟨k, rfl, hk, htk, hbw⟩ := hrel
    have HTK := hid_mk htk
    have hbw0 : Below w.heap.size w wr := (show Below w.heap.size w ((w.alloc (.cells #[.int .i64 (2), .int .u64 ((S).a.toNat : Int), .int .u64 ((S).b.toNat : Int), .int .u64 ((S).c.toNat : Int), .int .u64 ((S).d.toNat : Int), .slice (A) (kids.length) (ca), .int .i64 (0), .int .i64 (0)] 28)).alloc (.cells #[.int .u64 0, .int .u64 0, .int .u64 0, .int .u64 0] 25)) from (by repeat (first | with_reducible exact Below.refl _ _ | with_reducible assumption | with_reducible refine Below.setCell ?_ (by first | omega | (dsimp only; omega) | (simp <;> omega)) _ | with_reducible refine Below.alloc ?_ (by first | omega | (simp <;> omega)) _ | with_reducible refine below_drewN ?_ _ | with_reducible refine Below.drew ?_))).trans (hbw.mono (by first | omega | (simp; omega) | simp))
    have hxa : Blk wr w.heap.size #[.int .i64 (2), .int .u64 ((S).a.toNat : Int), .int .u64 ((S).b.toNat : Int), .int .u64 ((S).c.toNat : Int), .int .u64 ((S).d.toNat : Int), .slice (A) (kids.length) (ca), .int .i64 (0), .int .i64 (0)] 28 := (Blk.alloc (Blk.new w _ _) _).below hbw (by simp; omega)
    have hsz := hbw.size
    clear htk
    by_cases hlt : k < kids.length
    · have hka := kids_two HKA.out hbw0 HG.out
      obtain ⟨ba, oa, A', ca', hAE, hga, hsa', hka', hca⟩ := kidsAt_at hka hlt
      subst hAE
      have HIX := hid_mk (HIH.out kids[k] (List.getElem_mem hlt))
      have HNO := hid_mk (rights_bad (kd := 2) hlt)
      have HOK := hid_mk (rights_good (kd := 2) hlt HTK.out)
      generalize kids[k] = x at *
      have HC : Hid (∀ d os, Calls Tryd.prog 17 #[.agg #[.int .i64 (x.kind), .int .u64 ((x.set).a.toNat : Int), .int .u64 ((x.set).b.toNat : Int), .int .u64 ((x.set).c.toNat : Int), .int .u64 ((x.set).d.toNat : Int), .slice (A') (x.kids.length) (ca'), .int .i64 (x.min), .int .i64 (x.max)]] (grow (redrawn wr d) os) (fun e w'' => e = .returned (.bool (Rx.right x)) ∧ ∃ p : Regrown, w'' = grow (redrawn wr p.d) p.os)) := hid_mk (fun d os => retG_qq (HIX.out A' ca' G (grow (redrawn wr d) os) (fun b hb => Nat.lt_of_lt_of_le (HG.out b hb) (Nat.le_trans hbw0.size (below_regrown wr d os).size)) hsa' (kidsAt_keep (below_keeps (below_regrown wr d os) (fun b hb => Nat.lt_of_lt_of_le (HG.out b hb) hbw0.size)) (fun b h => h) hka')))
      have za0 : ∀ d os, (grow (redrawn wr d) os).cell? ⟨ba, oa + k * 8, none⟩ = some (.int .i64 x.kind) := fun d os => cell_regrown (hca 0 _ rfl) d os
      have za1 : ∀ d os, (grow (redrawn wr d) os).cell? ⟨ba, oa + k * 8 + 1, none⟩ = some (.int .u64 (x.set.a.toNat : Int)) := fun d os => cell_regrown (hca 1 _ rfl) d os
      have za2 : ∀ d os, (grow (redrawn wr d) os).cell? ⟨ba, oa + k * 8 + 2, none⟩ = some (.int .u64 (x.set.b.toNat : Int)) := fun d os => cell_regrown (hca 2 _ rfl) d os
      have za3 : ∀ d os, (grow (redrawn wr d) os).cell? ⟨ba, oa + k * 8 + 3, none⟩ = some (.int .u64 (x.set.c.toNat : Int)) := fun d os => cell_regrown (hca 3 _ rfl) d os
      have za4 : ∀ d os, (grow (redrawn wr d) os).cell? ⟨ba, oa + k * 8 + 4, none⟩ = some (.int .u64 (x.set.d.toNat : Int)) := fun d os => cell_regrown (hca 4 _ rfl) d os
      have za5 : ∀ d os, (grow (redrawn wr d) os).cell? ⟨ba, oa + k * 8 + 5, none⟩ = some (.slice A' x.kids.length ca') := fun d os => cell_regrown (hca 5 _ rfl) d os
      have za6 : ∀ d os, (grow (redrawn wr d) os).cell? ⟨ba, oa + k * 8 + 6, none⟩ = some (.int .i64 x.min) := fun d os => cell_regrown (hca 6 _ rfl) d os
      have za7 : ∀ d os, (grow (redrawn wr d) os).cell? ⟨ba, oa + k * 8 + 7, none⟩ = some (.int .i64 x.max) := fun d os => cell_regrown (hca 7 _ rfl) d os
      have qa : ∀ d os, (grow (redrawn wr d) os).cell? ⟨w.heap.size, 5, none⟩ = some (.slice (some ⟨ba, oa, none⟩) kids.length ca) := fun d os => cell_regrown (hxa.cell 5) d os
      have q0 : ∀ d os, (grow (redrawn wr d) os).cell? ⟨w.heap.size, 0, none⟩ = some (.int .i64 2) := fun d os => cell_regrown (hxa.cell 0) d os
      have HBW := hid_mk hbw
      have HBW0 := hid_mk hbw0
      clear hbw hbw0 hka hka' hca hxa HIX
      cases hx : Rx.right x with
      | false =>
        rw [hx] at HC HNO
        have HRF : Hid (R = false) := hid_mk (by rw [HE.out, HNO.out rfl, Bool.and_false])
        clear hx HOK HNO
        go_wp2
        (refine wp_region_quiet_below (by kernel_rfl) (by kernel_rfl) ?_; (repeat (first | go_big_quiet_step ((go_at_call 17; with_reducible exact HC.out _ _)) | quiet_step ((go_at_call 17; with_reducible exact HC.out _ _)))); refine wpQuiet_nil ?_; intro _ hw'; obtain ⟨⟨nq, osq⟩, hw''⟩ := hw'; subst hw'')
        have HBX := hid_mk (HBW0.out.trans ((below_regrown wr nq osq).mono HBW0.out.size))
        generalize grow (redrawn wr nq) osq = V at *
        go_wp2
        refine bodyPost_ret (v := .bool false) (by simp [results, Tryd.results17, go_sem]) rfl ?_
        exact ret_boolG HRF.out.symm HBX.out
      | true =>
        rw [hx] at HC HNO HOK
        clear hx
        by_cases hkk : x.kind = 2
        · have e1 : (x.kind == 2) = true := by simpa using hkk
          have HRF : Hid (R = false) := hid_mk (by rw [HE.out, HNO.out (by rw [e1]; rfl), Bool.and_false])
          clear hkk HNO HOK
          go_wp2
          (refine wp_region_quiet_below (by kernel_rfl) (by kernel_rfl) ?_; (repeat (first | go_big_quiet_step ((go_at_call 17; with_reducible exact HC.out _ _)) | quiet_step ((go_at_call 17; with_reducible exact HC.out _ _)))); refine wpQuiet_nil ?_; intro _ hw'; obtain ⟨⟨nq, osq⟩, hw''⟩ := hw'; subst hw'')
          have HBX := hid_mk (HBW0.out.trans ((below_regrown wr nq osq).mono HBW0.out.size))
          generalize grow (redrawn wr nq) osq = V at *
          go_wp2
          refine bodyPost_ret (v := .bool false) (by simp [results, Tryd.results17, go_sem]) rfl ?_
          exact ret_boolG HRF.out.symm HBX.out
        · have e1 : (x.kind == 2) = false := by simpa using hkk
          have HT2 := hid_mk (HOK.out (by rw [e1]; rfl))
          clear hkk HNO HOK
          go_wp2
          (refine wp_region_quiet_below (by kernel_rfl) (by kernel_rfl) ?_; (repeat (first | go_big_quiet_step ((go_at_call 17; with_reducible exact HC.out _ _)) | quiet_step ((go_at_call 17; with_reducible exact HC.out _ _)))); refine wpQuiet_nil ?_; intro _ hw'; obtain ⟨⟨nq, osq⟩, hw''⟩ := hw'; subst hw'')
          have HBX := hid_mk (HBW.out.trans ((below_regrown wr nq osq).mono HBW.out.size))
          generalize grow (redrawn wr nq) osq = V at *
          go_wp2
          go_roundw
          case rel => exact ⟨k + 1, by go_num, by omega, HT2.out, HBX.out⟩
          case measure => simp [intOf]; omega
    · have hkl : k = kids.length := by omega
      subst hkl
      have HB0 := hid_mk hbw0
      have HTT : Hid (Rx.rights 2 kids = true) := hid_mk (by have := HTK.out; rwa [List.take_length] at this)
      clear hbw hbw0 hxa HTK
      go_wp2
      refine bodyPost_ret (v := .bool true) (by simp [results, Tryd.results17, go_sem]) rfl ?_
      exact ret_boolG (by rw [HE.out, HT.out, HTT.out]; rfl) HB0.out
theorem rright_k3 (S : CSet) (kids : List Node) (mn mx : Int) (hal : kids.length ≤ 2 ^ 63 - 1) (hih : ∀ x ∈ kids, RRightOk x) (A : Option Addr) (ca : Nat) (G : Nat → Prop) (w : World) (hG : ∀ x, G x → x < w.heap.size) (hka : KidsAt G w A kids) :
    Calls Tryd.prog 17 #[.agg #[.int .i64 (3), .int .u64 ((S).a.toNat : Int), .int .u64 ((S).b.toNat : Int), .int .u64 ((S).c.toNat : Int), .int .u64 ((S).d.toNat : Int), .slice (A) (kids.length) (ca), .int .i64 (mn), .int .i64 (mx)]] w (RetG (.bool (Rx.right (.mk 3 S kids mn mx))) w) := by
  have HIH := hid_mk hih
  have HG := hid_mk hG
  have HKA := hid_mk hka
  clear hG hka hih
  have HE : Hid (Rx.right (.mk 3 S kids mn mx) = (Rx.topB 3 S kids.length mn mx && Rx.rights 3 kids)) := hid_mk (by rw [Rx.right])
  generalize Rx.right (.mk 3 S kids mn mx) = R at *
  by_cases hS : S = CSet.empty
  case neg =>
    have hse : ∀ w, (Op.equalIn 10000 25 (.agg #[.int .u64 ((S).a.toNat : Int), .int .u64 ((S).b.toNat : Int), .int .u64 ((S).c.toNat : Int), .int .u64 ((S).d.toNat : Int)]) (.agg #[.int .u64 0, .int .u64 0, .int .u64 0, .int .u64 0])).run Tryd.prog w = .ok false w := fun w => by rw [set_none, decide_eq_false hS]
    go_enter Tryd.func17, Tryd.ntmps17
    go_wp2
    refine bodyPost_ret (v := .bool false) (by simp [results, Tryd.results17, go_sem]) rfl ?_
    exact ret_boolG (by rw [HE.out]; simp [Rx.topB, hS]) (by repeat (first | with_reducible exact Below.refl _ _ | with_reducible assumption | with_reducible refine Below.setCell ?_ (by first | omega | (dsimp only; omega) | (simp <;> omega)) _ | with_reducible refine Below.alloc ?_ (by first | omega | (simp <;> omega)) _ | with_reducible refine below_drewN ?_ _ | with_reducible refine Below.drew ?_))
  have hse : ∀ w, (Op.equalIn 10000 25 (.agg #[.int .u64 ((S).a.toNat : Int), .int .u64 ((S).b.toNat : Int), .int .u64 ((S).c.toNat : Int), .int .u64 ((S).d.toNat : Int)]) (.agg #[.int .u64 0, .int .u64 0, .int .u64 0, .int .u64 0])).run Tryd.prog w = .ok true w := fun w => by rw [set_none, decide_eq_true hS]
  have HS := hid_mk hS
  clear hS
  by_cases hmn : mn = 0
  case neg =>
    have hmb : (mn != 0) = true := by simpa using hmn
    go_enter Tryd.func17, Tryd.ntmps17
    go_wp2
    refine bodyPost_ret (v := .bool false) (by simp [results, Tryd.results17, go_sem]) rfl ?_
    exact ret_boolG (by rw [HE.out]; simp [Rx.topB, HS.out, hmn]) (by repeat (first | with_reducible exact Below.refl _ _ | with_reducible assumption | with_reducible refine Below.setCell ?_ (by first | omega | (dsimp only; omega) | (simp <;> omega)) _ | with_reducible refine Below.alloc ?_ (by first | omega | (simp <;> omega)) _ | with_reducible refine below_drewN ?_ _ | with_reducible refine Below.drew ?_))
  by_cases hmx : mx = 0
  case neg =>
    subst hmn
    have hxb : (mx != 0) = true := by simpa using hmx
    go_enter Tryd.func17, Tryd.ntmps17
    go_wp2
    refine bodyPost_ret (v := .bool false) (by simp [results, Tryd.results17, go_sem]) rfl ?_
    exact ret_boolG (by rw [HE.out]; simp [Rx.topB, HS.out, hmx]) (by repeat (first | with_reducible exact Below.refl _ _ | with_reducible assumption | with_reducible refine Below.setCell ?_ (by first | omega | (dsimp only; omega) | (simp <;> omega)) _ | with_reducible refine Below.alloc ?_ (by first | omega | (simp <;> omega)) _ | with_reducible refine below_drewN ?_ _ | with_reducible refine Below.drew ?_))
  subst hmn hmx
  by_cases hln : kids.length < 2
  case pos =>
    have g2 : decide ((kids.length : Int) < 2) = true := decide_eq_true (by omega)
    have g3 : ¬ 1 < kids.length := by omega
    go_enter Tryd.func17, Tryd.ntmps17
    go_wp2
    refine bodyPost_ret (v := .bool false) (by simp [results, Tryd.results17, go_sem]) rfl ?_
    exact ret_boolG (by rw [HE.out]; simp [Rx.topB, HS.out, g3]) (by repeat (first | with_reducible exact Below.refl _ _ | with_reducible assumption | with_reducible refine Below.setCell ?_ (by first | omega | (dsimp only; omega) | (simp <;> omega)) _ | with_reducible refine Below.alloc ?_ (by first | omega | (simp <;> omega)) _ | with_reducible refine below_drewN ?_ _ | with_reducible refine Below.drew ?_))
  have g2 : decide ((kids.length : Int) < 2) = false := decide_eq_false (by omega)
  have g : decide (kids.length < 2) = false := decide_eq_false hln
  have g3 : 1 < kids.length := by omega
  have HT : Hid (Rx.topB 3 S kids.length 0 0 = true) := hid_mk (by simp [Rx.topB, HS.out, g3])
  go_enter Tryd.func17, Tryd.ntmps17
  go_wp2
  go_loopw [5] (fun v wr => PRightAt 3 kids ((w.alloc (.cells #[.int .i64 (3), .int .u64 ((S).a.toNat : Int), .int .u64 ((S).b.toNat : Int), .int .u64 ((S).c.toNat : Int), .int .u64 ((S).d.toNat : Int), .slice (A) (kids.length) (ca), .int .i64 (0), .int .i64 (0)] 28)).alloc (.cells #[.int .u64 0, .int .u64 0, .int .u64 0, .int .u64 0] 25)) v wr) (fun v _ => kids.length - (intOf v).toNat)
  case atStart => exact ⟨0, rfl, Nat.zero_le _, rfl, Below.refl _ _⟩
  case round =>
    obtain ⟨k, rfl, hk, htk, hbw⟩ := hrel
    have HTK := hid_mk htk
    have hbw0 : Below w.heap.size w wr := (show Below w.heap.size w ((w.alloc (.cells #[.int .i64 (3), .int .u64 ((S).a.toNat : Int), .int .u64 ((S).b.toNat : Int), .int .u64 ((S).c.toNat : Int), .int .u64 ((S).d.toNat : Int), .slice (A) (kids.length) (ca), .int .i64 (0), .int .i64 (0)] 28)).alloc (.cells #[.int .u64 0, .int .u64 0, .int .u64 0, .int .u64 0] 25)) from (by repeat (first | with_reducible exact Below.refl _ _ | with_reducible assumption | with_reducible refine Below.setCell ?_ (by first | omega | (dsimp only; omega) | (simp <;> omega)) _ | with_reducible refine Below.alloc ?_ (by first | omega | (simp <;> omega)) _ | with_reducible refine below_drewN ?_ _ | with_reducible refine Below.drew ?_))).trans (hbw.mono (by first | omega | (simp; omega) | simp))
    have hxa : Blk wr w.heap.size #[.int .i64 (3), .int .u64 ((S).a.toNat : Int), .int .u64 ((S).b.toNat : Int), .int .u64 ((S).c.toNat : Int), .int .u64 ((S).d.toNat : Int), .slice (A) (kids.length) (ca), .int .i64 (0), .int .i64 (0)] 28 := (Blk.alloc (Blk.new w _ _) _).below hbw (by simp; omega)
    have hsz := hbw.size
    clear htk
    by_cases hlt : k < kids.length
    · have hka := kids_two HKA.out hbw0 HG.out
      obtain ⟨ba, oa, A', ca', hAE, hga, hsa', hka', hca⟩ := kidsAt_at hka hlt
      subst hAE
      have HIX := hid_mk (HIH.out kids[k] (List.getElem_mem hlt))
      have HNO := hid_mk (rights_bad (kd := 3) hlt)
      have HOK := hid_mk (rights_good (kd := 3) hlt HTK.out)
      generalize kids[k] = x at *
      have HC : Hid (∀ d os, Calls Tryd.prog 17 #[.agg #[.int .i64 (x.kind), .int .u64 ((x.set).a.toNat : Int), .int .u64 ((x.set).b.toNat : Int), .int .u64 ((x.set).c.toNat : Int), .int .u64 ((x.set).d.toNat : Int), .slice (A') (x.kids.length) (ca'), .int .i64 (x.min), .int .i64 (x.max)]] (grow (redrawn wr d) os) (fun e w'' => e = .returned (.bool (Rx.right x)) ∧ ∃ p : Regrown, w'' = grow (redrawn wr p.d) p.os)) := hid_mk (fun d os => retG_qq (HIX.out A' ca' G (grow (redrawn wr d) os) (fun b hb => Nat.lt_of_lt_of_le (HG.out b hb) (Nat.le_trans hbw0.size (below_regrown wr d os).size)) hsa' (kidsAt_keep (below_keeps (below_regrown wr d os) (fun b hb => Nat.lt_of_lt_of_le (HG.out b hb) hbw0.size)) (fun b h => h) hka')))
      have za0 : ∀ d os, (grow (redrawn wr d) os).cell? ⟨ba, oa + k * 8, none⟩ = some (.int .i64 x.kind) := fun d os => cell_regrown (hca 0 _ rfl) d os
      have za1 : ∀ d os, (grow (redrawn wr d) os).cell? ⟨ba, oa + k * 8 + 1, none⟩ = some (.int .u64 (x.set.a.toNat : Int)) := fun d os => cell_regrown (hca 1 _ rfl) d os
      have za2 : ∀ d os, (grow (redrawn wr d) os).cell? ⟨ba, oa + k * 8 + 2, none⟩ = some (.int .u64 (x.set.b.toNat : Int)) := fun d os => cell_regrown (hca 2 _ rfl) d os
      have za3 : ∀ d os, (grow (redrawn wr d) os).cell? ⟨ba, oa + k * 8 + 3, none⟩ = some (.int .u64 (x.set.c.toNat : Int)) := fun d os => cell_regrown (hca 3 _ rfl) d os
      have za4 : ∀ d os, (grow (redrawn wr d) os).cell? ⟨ba, oa + k * 8 + 4, none⟩ = some (.int .u64 (x.set.d.toNat : Int)) := fun d os => cell_regrown (hca 4 _ rfl) d os
      have za5 : ∀ d os, (grow (redrawn wr d) os).cell? ⟨ba, oa + k * 8 + 5, none⟩ = some (.slice A' x.kids.length ca') := fun d os => cell_regrown (hca 5 _ rfl) d os
      have za6 : ∀ d os, (grow (redrawn wr d) os).cell? ⟨ba, oa + k * 8 + 6, none⟩ = some (.int .i64 x.min) := fun d os => cell_regrown (hca 6 _ rfl) d os
      have za7 : ∀ d os, (grow (redrawn wr d) os).cell? ⟨ba, oa + k * 8 + 7, none⟩ = some (.int .i64 x.max) := fun d os => cell_regrown (hca 7 _ rfl) d os
      have qa : ∀ d os, (grow (redrawn wr d) os).cell? ⟨w.heap.size, 5, none⟩ = some (.slice (some ⟨ba, oa, none⟩) kids.length ca) := fun d os => cell_regrown (hxa.cell 5) d os
      have q0 : ∀ d os, (grow (redrawn wr d) os).cell? ⟨w.heap.size, 0, none⟩ = some (.int .i64 3) := fun d os => cell_regrown (hxa.cell 0) d os
      have HBW := hid_mk hbw
      have HBW0 := hid_mk hbw0
      clear hbw hbw0 hka hka' hca hxa HIX
      cases hx : Rx.right x with
      | false =>
        rw [hx] at HC HNO
        have HRF : Hid (R = false) := hid_mk (by rw [HE.out, HNO.out rfl, Bool.and_false])
        clear hx HOK HNO
        go_wp2
        (refine wp_region_quiet_below (by kernel_rfl) (by kernel_rfl) ?_; (repeat (first | go_big_quiet_step ((go_at_call 17; with_reducible exact HC.out _ _)) | quiet_step ((go_at_call 17; with_reducible exact HC.out _ _)))); refine wpQuiet_nil ?_; intro _ hw'; obtain ⟨⟨nq, osq⟩, hw''⟩ := hw'; subst hw'')
        have HBX := hid_mk (HBW0.out.trans ((below_regrown wr nq osq).mono HBW0.out.size))
        generalize grow (redrawn wr nq) osq = V at *
        go_wp2
        refine bodyPost_ret (v := .bool false) (by simp [results, Tryd.results17, go_sem]) rfl ?_
        exact ret_boolG HRF.out.symm HBX.out
      | true =>
        rw [hx] at HC HNO HOK
        clear hx
        by_cases hkk : x.kind = 3
        · have e1 : (x.kind == 3) = true := by simpa using hkk
          have HRF : Hid (R = false) := hid_mk (by rw [HE.out, HNO.out (by rw [e1]; rfl), Bool.and_false])
          clear hkk HNO HOK
          go_wp2
          (refine wp_region_quiet_below (by kernel_rfl) (by kernel_rfl) ?_; (repeat (first | go_big_quiet_step ((go_at_call 17; with_reducible exact HC.out _ _)) | quiet_step ((go_at_call 17; with_reducible exact HC.out _ _)))); refine wpQuiet_nil ?_; intro _ hw'; obtain ⟨⟨nq, osq⟩, hw''⟩ := hw'; subst hw'')
          have HBX := hid_mk (HBW0.out.trans ((below_regrown wr nq osq).mono HBW0.out.size))
          generalize grow (redrawn wr nq) osq = V at *
          go_wp2
          refine bodyPost_ret (v := .bool false) (by simp [results, Tryd.results17, go_sem]) rfl ?_
          exact ret_boolG HRF.out.symm HBX.out
        · have e1 : (x.kind == 3) = false := by simpa using hkk
          have HT2 := hid_mk (HOK.out (by rw [e1]; rfl))
          clear hkk HNO HOK
          go_wp2
          (refine wp_region_quiet_below (by kernel_rfl) (by kernel_rfl) ?_; (repeat (first | go_big_quiet_step ((go_at_call 17; with_reducible exact HC.out _ _)) | quiet_step ((go_at_call 17; with_reducible exact HC.out _ _)))); refine wpQuiet_nil ?_; intro _ hw'; obtain ⟨⟨nq, osq⟩, hw''⟩ := hw'; subst hw'')
          have HBX := hid_mk (HBW.out.trans ((below_regrown wr nq osq).mono HBW.out.size))
          generalize grow (redrawn wr nq) osq = V at *
          go_wp2
          go_roundw
          case rel => exact ⟨k + 1, by go_num, by omega, HT2.out, HBX.out⟩
          case measure => simp [intOf]; omega
    · have hkl : k = kids.length := by omega
      subst hkl
      have HB0 := hid_mk hbw0
      have HTT : Hid (Rx.rights 3 kids = true) := hid_mk (by have := HTK.out; rwa [List.take_length] at this)
      clear hbw hbw0 hxa HTK
      go_wp2
      refine bodyPost_ret (v := .bool true) (by simp [results, Tryd.results17, go_sem]) rfl ?_
      exact ret_boolG (by rw [HE.out, HT.out, HTT.out]; rfl) HB0.out
theorem rright_k4 (S : CSet) (kids : List Node) (mn mx : Int) (hal : kids.length ≤ 2 ^ 63 - 1) (hih : ∀ x ∈ kids, RRightOk x) (A : Option Addr) (ca : Nat) (G : Nat → Prop) (w : World) (hG : ∀ x, G x → x < w.heap.size) (hka : KidsAt G w A kids) :
    Calls Tryd.prog 17 #[.agg #[.int .i64 (4), .int .u64 ((S).a.toNat : Int), .int .u64 ((S).b.toNat : Int), .int .u64 ((S).c.toNat : Int), .int .u64 ((S).d.toNat : Int), .slice (A) (kids.length) (ca), .int .i64 (mn), .int .i64 (mx)]] w (RetG (.bool (Rx.right (.mk 4 S kids mn mx))) w) := by
  have HIH := hid_mk hih
  have HG := hid_mk hG
  have HKA := hid_mk hka
  clear hG hka hih
  have HE : Hid (Rx.right (.mk 4 S kids mn mx) = (Rx.topB 4 S kids.length mn mx && Rx.rights 4 kids)) := hid_mk (by rw [Rx.right])
  generalize Rx.right (.mk 4 S kids mn mx) = R at *
  by_cases hS : S = CSet.empty
  case neg =>
    have hse : ∀ w, (Op.equalIn 10000 25 (.agg #[.int .u64 ((S).a.toNat : Int), .int .u64 ((S).b.toNat : Int), .int .u64 ((S).c.toNat : Int), .int .u64 ((S).d.toNat : Int)]) (.agg #[.int .u64 0, .int .u64 0, .int .u64 0, .int .u64 0])).run Tryd.prog w = .ok false w := fun w => by rw [set_none, decide_eq_false hS]
    go_enter Tryd.func17, Tryd.ntmps17
    go_wp2
    refine bodyPost_ret (v := .bool false) (by simp [results, Tryd.results17, go_sem]) rfl ?_
    exact ret_boolG (by rw [HE.out]; simp [Rx.topB, hS]) (by repeat (first | with_reducible exact Below.refl _ _ | with_reducible assumption | with_reducible refine Below.setCell ?_ (by first | omega | (dsimp only; omega) | (simp <;> omega)) _ | with_reducible refine Below.alloc ?_ (by first | omega | (simp <;> omega)) _ | with_reducible refine below_drewN ?_ _ | with_reducible refine Below.drew ?_))
  have hse : ∀ w, (Op.equalIn 10000 25 (.agg #[.int .u64 ((S).a.toNat : Int), .int .u64 ((S).b.toNat : Int), .int .u64 ((S).c.toNat : Int), .int .u64 ((S).d.toNat : Int)]) (.agg #[.int .u64 0, .int .u64 0, .int .u64 0, .int .u64 0])).run Tryd.prog w = .ok true w := fun w => by rw [set_none, decide_eq_true hS]
  have HS := hid_mk hS
  clear hS
  by_cases hln : kids.length = 1
  case neg =>
    have g : (kids.length != 1) = true := bne_iff_ne.2 hln
    have g2 : ((kids.length : Int) != 1) = true := bne_iff_ne.2 (by omega)
    go_enter Tryd.func17, Tryd.ntmps17
    go_wp2
    refine bodyPost_ret (v := .bool false) (by simp [results, Tryd.results17, go_sem]) rfl ?_
    exact ret_boolG (by rw [HE.out]; simp [Rx.topB, HS.out, hln]) (by repeat (first | with_reducible exact Below.refl _ _ | with_reducible assumption | with_reducible refine Below.setCell ?_ (by first | omega | (dsimp only; omega) | (simp <;> omega)) _ | with_reducible refine Below.alloc ?_ (by first | omega | (simp <;> omega)) _ | with_reducible refine below_drewN ?_ _ | with_reducible refine Below.drew ?_))
  have g : (kids.length != 1) = false := by rw [hln]; rfl
  have g2 : ((kids.length : Int) != 1) = false := by rw [hln]; rfl
  have HLN := hid_mk hln
  clear hln
  have HTM := hide (fun w => rtimes_any mn mx w)
  cases hti : Rx.timesB mn mx with
  | false =>
    rw [hti] at HTM
    have HTI := hid_mk hti
    clear hti
    go_enter Tryd.func17, Tryd.ntmps17
    go_wp2_with fail
    refine (unhide HTM _).mono ?_
    rintro e wt ⟨rfl, rfl⟩
    go_wp2
    refine bodyPost_ret (v := .bool false) (by simp [results, Tryd.results17, go_sem]) rfl ?_
    exact ret_boolG (by rw [HE.out]; simp [Rx.topB, HS.out, HLN.out, HTI.out]) (by repeat (first | with_reducible exact Below.refl _ _ | with_reducible assumption | with_reducible refine Below.setCell ?_ (by first | omega | (dsimp only; omega) | (simp <;> omega)) _ | with_reducible refine Below.alloc ?_ (by first | omega | (simp <;> omega)) _ | with_reducible refine below_drewN ?_ _ | with_reducible refine Below.drew ?_))
  | true =>
    rw [hti] at HTM
    have HTI := hid_mk hti
    clear hti
    have HT : Hid (Rx.topB 4 S kids.length mn mx = true) := hid_mk (by simp [Rx.topB, HS.out, HLN.out, HTI.out])
    go_enter Tryd.func17, Tryd.ntmps17
    go_wp2_with fail
    refine (unhide HTM _).mono ?_
    rintro e wt ⟨rfl, rfl⟩
    go_wp2
    go_loopw [5] (fun v wr => PRightAt 4 kids ((w.alloc (.cells #[.int .i64 (4), .int .u64 ((S).a.toNat : Int), .int .u64 ((S).b.toNat : Int), .int .u64 ((S).c.toNat : Int), .int .u64 ((S).d.toNat : Int), .slice (A) (kids.length) (ca), .int .i64 (mn), .int .i64 (mx)] 28)).alloc (.cells #[.int .u64 0, .int .u64 0, .int .u64 0, .int .u64 0] 25)) v wr) (fun v _ => kids.length - (intOf v).toNat)
    case atStart => exact ⟨0, rfl, Nat.zero_le _, rfl, Below.refl _ _⟩
    case round =>
      obtain ⟨k, rfl, hk, htk, hbw⟩ := hrel
      have HTK := hid_mk htk
      have hbw0 : Below w.heap.size w wr := (show Below w.heap.size w ((w.alloc (.cells #[.int .i64 (4), .int .u64 ((S).a.toNat : Int), .int .u64 ((S).b.toNat : Int), .int .u64 ((S).c.toNat : Int), .int .u64 ((S).d.toNat : Int), .slice (A) (kids.length) (ca), .int .i64 (mn), .int .i64 (mx)] 28)).alloc (.cells #[.int .u64 0, .int .u64 0, .int .u64 0, .int .u64 0] 25)) from (by repeat (first | with_reducible exact Below.refl _ _ | with_reducible assumption | with_reducible refine Below.setCell ?_ (by first | omega | (dsimp only; omega) | (simp <;> omega)) _ | with_reducible refine Below.alloc ?_ (by first | omega | (simp <;> omega)) _ | with_reducible refine below_drewN ?_ _ | with_reducible refine Below.drew ?_))).trans (hbw.mono (by first | omega | (simp; omega) | simp))
      have hxa : Blk wr w.heap.size #[.int .i64 (4), .int .u64 ((S).a.toNat : Int), .int .u64 ((S).b.toNat : Int), .int .u64 ((S).c.toNat : Int), .int .u64 ((S).d.toNat : Int), .slice (A) (kids.length) (ca), .int .i64 (mn), .int .i64 (mx)] 28 := (Blk.alloc (Blk.new w _ _) _).below hbw (by simp; omega)
      have hsz := hbw.size
      clear htk
      by_cases hlt : k < kids.length
      · have hka := kids_two HKA.out hbw0 HG.out
        obtain ⟨ba, oa, A', ca', hAE, hga, hsa', hka', hca⟩ := kidsAt_at hka hlt
        subst hAE
        have HIX := hid_mk (HIH.out kids[k] (List.getElem_mem hlt))
        have HNO := hid_mk (rights_bad (kd := 4) hlt)
        have HOK := hid_mk (rights_good (kd := 4) hlt HTK.out)
        generalize kids[k] = x at *
        have HC : Hid (∀ d os, Calls Tryd.prog 17 #[.agg #[.int .i64 (x.kind), .int .u64 ((x.set).a.toNat : Int), .int .u64 ((x.set).b.toNat : Int), .int .u64 ((x.set).c.toNat : Int), .int .u64 ((x.set).d.toNat : Int), .slice (A') (x.kids.length) (ca'), .int .i64 (x.min), .int .i64 (x.max)]] (grow (redrawn wr d) os) (fun e w'' => e = .returned (.bool (Rx.right x)) ∧ ∃ p : Regrown, w'' = grow (redrawn wr p.d) p.os)) := hid_mk (fun d os => retG_qq (HIX.out A' ca' G (grow (redrawn wr d) os) (fun b hb => Nat.lt_of_lt_of_le (HG.out b hb) (Nat.le_trans hbw0.size (below_regrown wr d os).size)) hsa' (kidsAt_keep (below_keeps (below_regrown wr d os) (fun b hb => Nat.lt_of_lt_of_le (HG.out b hb) hbw0.size)) (fun b h => h) hka')))
        have za0 : ∀ d os, (grow (redrawn wr d) os).cell? ⟨ba, oa + k * 8, none⟩ = some (.int .i64 x.kind) := fun d os => cell_regrown (hca 0 _ rfl) d os
        have za1 : ∀ d os, (grow (redrawn wr d) os).cell? ⟨ba, oa + k * 8 + 1, none⟩ = some (.int .u64 (x.set.a.toNat : Int)) := fun d os => cell_regrown (hca 1 _ rfl) d os
        have za2 : ∀ d os, (grow (redrawn wr d) os).cell? ⟨ba, oa + k * 8 + 2, none⟩ = some (.int .u64 (x.set.b.toNat : Int)) := fun d os => cell_regrown (hca 2 _ rfl) d os
        have za3 : ∀ d os, (grow (redrawn wr d) os).cell? ⟨ba, oa + k * 8 + 3, none⟩ = some (.int .u64 (x.set.c.toNat : Int)) := fun d os => cell_regrown (hca 3 _ rfl) d os
        have za4 : ∀ d os, (grow (redrawn wr d) os).cell? ⟨ba, oa + k * 8 + 4, none⟩ = some (.int .u64 (x.set.d.toNat : Int)) := fun d os => cell_regrown (hca 4 _ rfl) d os
        have za5 : ∀ d os, (grow (redrawn wr d) os).cell? ⟨ba, oa + k * 8 + 5, none⟩ = some (.slice A' x.kids.length ca') := fun d os => cell_regrown (hca 5 _ rfl) d os
        have za6 : ∀ d os, (grow (redrawn wr d) os).cell? ⟨ba, oa + k * 8 + 6, none⟩ = some (.int .i64 x.min) := fun d os => cell_regrown (hca 6 _ rfl) d os
        have za7 : ∀ d os, (grow (redrawn wr d) os).cell? ⟨ba, oa + k * 8 + 7, none⟩ = some (.int .i64 x.max) := fun d os => cell_regrown (hca 7 _ rfl) d os
        have qa : ∀ d os, (grow (redrawn wr d) os).cell? ⟨w.heap.size, 5, none⟩ = some (.slice (some ⟨ba, oa, none⟩) kids.length ca) := fun d os => cell_regrown (hxa.cell 5) d os
        have q0 : ∀ d os, (grow (redrawn wr d) os).cell? ⟨w.heap.size, 0, none⟩ = some (.int .i64 4) := fun d os => cell_regrown (hxa.cell 0) d os
        have HBW := hid_mk hbw
        have HBW0 := hid_mk hbw0
        clear hbw hbw0 hka hka' hca hxa HIX
        cases hx : Rx.right x with
        | false =>
          rw [hx] at HC HNO
          have HRF : Hid (R = false) := hid_mk (by rw [HE.out, HNO.out rfl, Bool.and_false])
          clear hx HOK HNO
          go_wp2
          (refine wp_region_quiet_below (by kernel_rfl) (by kernel_rfl) ?_; (repeat (first | go_big_quiet_step ((go_at_call 17; with_reducible exact HC.out _ _)) | quiet_step ((go_at_call 17; with_reducible exact HC.out _ _)))); refine wpQuiet_nil ?_; intro _ hw'; obtain ⟨⟨nq, osq⟩, hw''⟩ := hw'; subst hw'')
          have HBX := hid_mk (HBW0.out.trans ((below_regrown wr nq osq).mono HBW0.out.size))
          generalize grow (redrawn wr nq) osq = V at *
          go_wp2
          refine bodyPost_ret (v := .bool false) (by simp [results, Tryd.results17, go_sem]) rfl ?_
          exact ret_boolG HRF.out.symm HBX.out
        | true =>
          rw [hx] at HC HNO HOK
          clear hx
          by_cases hkk : x.kind = 4
          · have e1 : (x.kind == 4) = true := by simpa using hkk
            have HT2 := hid_mk (HOK.out (by rw [e1]; rfl))
            clear hkk HNO HOK
            go_wp2
            (refine wp_region_quiet_below (by kernel_rfl) (by kernel_rfl) ?_; (repeat (first | go_big_quiet_step ((go_at_call 17; with_reducible exact HC.out _ _)) | quiet_step ((go_at_call 17; with_reducible exact HC.out _ _)))); refine wpQuiet_nil ?_; intro _ hw'; obtain ⟨⟨nq, osq⟩, hw''⟩ := hw'; subst hw'')
            have HBX := hid_mk (HBW.out.trans ((below_regrown wr nq osq).mono HBW.out.size))
            generalize grow (redrawn wr nq) osq = V at *
            go_wp2
            go_roundw
            case rel => exact ⟨k + 1, by go_num, by omega, HT2.out, HBX.out⟩
            case measure => simp [intOf]; omega
          · have e1 : (x.kind == 4) = false := by simpa using hkk
            have HT2 := hid_mk (HOK.out (by rw [e1]; rfl))
            clear hkk HNO HOK
            go_wp2
            (refine wp_region_quiet_below (by kernel_rfl) (by kernel_rfl) ?_; (repeat (first | go_big_quiet_step ((go_at_call 17; with_reducible exact HC.out _ _)) | quiet_step ((go_at_call 17; with_reducible exact HC.out _ _)))); refine wpQuiet_nil ?_; intro _ hw'; obtain ⟨⟨nq, osq⟩, hw''⟩ := hw'; subst hw'')
            have HBX := hid_mk (HBW.out.trans ((below_regrown wr nq osq).mono HBW.out.size))
            generalize grow (redrawn wr nq) osq = V at *
            go_wp2
            go_roundw
            case rel => exact ⟨k + 1, by go_num, by omega, HT2.out, HBX.out⟩
            case measure => simp [intOf]; omega
      · have hkl : k = kids.length := by omega
        subst hkl
        have HB0 := hid_mk hbw0
        have HTT : Hid (Rx.rights 4 kids = true) := hid_mk (by have := HTK.out; rwa [List.take_length] at this)
        clear hbw hbw0 hxa HTK
        go_wp2
        refine bodyPost_ret (v := .bool true) (by simp [results, Tryd.results17, go_sem]) rfl ?_
        exact ret_boolG (by rw [HE.out, HT.out, HTT.out]; rfl) HB0.out
theorem rright_any : ∀ (m : Nat) (n : Node), n.size ≤ m → n.lens → RRightOk n := by
  intro m
  induction m with
  | zero => intro a h; exact absurd h (by have := a.size_pos; omega)
  | succ m ih =>
    intro n ha ha2 A ca G w hG hsa hka
    have hal := Node.lens_len ha2
    have hih : ∀ x ∈ n.kids, RRightOk x := fun x hx => ih x (by have := Node.size_mem_kids hx; omega) (Node.lens_mem ha2 hx)
    cases n with
    | mk kd S kids mn mx =>
    by_cases h : kd < 1 ∨ 4 < kd
    · exact rright_k0 S kids mn mx hal hih A ca G w hG hka kd h
    · have hkk : kd = 1 ∨ kd = 2 ∨ kd = 3 ∨ kd = 4 := by omega
      rcases hkk with rfl | rfl | rfl | rfl
      · exact rright_k1 S kids mn mx hal hih A ca G w hG hka
      · exact rright_k2 S kids mn mx hal hih A ca G w hG hka
      · exact rright_k3 S kids mn mx hal hih A ca G w hG hka
      · exact rright_k4 S kids mn mx hal hih A ca G w hG hka
end Go.Proofs.YthgcefppeaopkaaDoor
