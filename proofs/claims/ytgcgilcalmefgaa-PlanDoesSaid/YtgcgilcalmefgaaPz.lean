/- The law PlanDoes: walked by the plain machine. -/
import Derived.Test.YtgcgilcalmefgaaPvZ
namespace Go.Proofs.Ytgcgilcalmefgaa
open Go Go.RowKit
set_option linter.unusedVariables false
set_option linter.unusedSimpArgs false
set_option linter.unusedSectionVars false
set_option maxRecDepth 100000
set_option maxHeartbeats 40000000
open Ab Vw
theorem right_sz {t : Rn.S} (h : Rn.right t = true) : SzS t := by
  obtain ⟨h1, h2, h3, h4⟩ := Rn.right_parts h
  refine ⟨by unfold maxLen; omega, fun x hx => ?_⟩
  obtain ⟨g1, g2, g3, g4, g5, g6⟩ := Rn.ten_parts (h3 x hx)
  refine ⟨?_, by unfold maxLen; omega, fun k hk => ?_⟩
  · have : x.name.data.toList.length ≤ 32 := by
      unfold Nm.wordB at g1
      simp only [Bool.and_eq_true, decide_eq_true_eq] at g1
      exact g1.1.2
    have e : x.name.size = x.name.data.toList.length := by rw [Array.length_toList]; rfl
    unfold maxLen
    omega
  · have := (Rn.keyB_iff.1 (g5 k hk)).2.2
    unfold maxLen
    omega
/-- what the law asks of a plan that can be done -/
theorem step_facts {op : Nat} {s : Rn.S} {n key : ByteArray} {num : Int} {l : List Rn.E} (ho : 1 ≤ op) (ho5 : op ≤ 5) (hr : Rn.right s = true) (hn : n.size ≤ maxLen) (hk : key.size ≤ maxLen) (hp : Pl.planR op s n key num = (l, 0)) :
    ∃ (TX : Ab.Rows) (ser2 kk : Int) (xn : ByteArray) (xe xx : Int) (XK : Ab.Rows) (kn : Int) (kt : ByteArray) (hb : Bool) (ot : ByteArray) (ob : Bool),
      Fun Try.prog 19 [stV s, evsV l] (.tup [.agg [.t (.slc TX), fI .i64 ser2], fI .i64 0]) ∧
      Fun Try.prog 18 [.agg [.t (.slc TX), fI .i64 ser2], fS n] (fI .i64 kk) ∧ 0 ≤ kk ∧ kk < ((TX.length : Nat) : Int) ∧ TX[kk.toNat]? = some [.flat (.string xn), .flat (.int .i64 xe), .flat (.int .i64 xx), .slc XK] ∧
      Fun Try.prog 23 [.agg [.t (.slc TX), fI .i64 ser2], fS n] (.tup [.agg [fI .i64 kn, fS kt], fB hb]) ∧
      Fun Try.prog 21 [.agg [.t (.slc TX), fI .i64 ser2], fS n, fI .i64 num] (.tup [fS ot, fB ob]) ∧
      (op ≤ 2 → hb = true ∧ kt = key ∧ ((XK.length : Nat) : Int) = (((Pl.tenAt s n).keys.length : Nat) : Int) + 1 ∧ xe = (Pl.tenAt s n).epoch) ∧
      (op = 3 → ob = false ∧ ((XK.length : Nat) : Int) = (((Pl.tenAt s n).keys.length : Nat) : Int) - 1) ∧
      (op = 4 → xe = (Pl.tenAt s n).epoch + 1 ∧ ((XK.length : Nat) : Int) = (((Pl.tenAt s n).keys.length : Nat) : Int)) ∧
      (op = 5 → ser2 = s.serial + 1) ∧ (op < 5 → ser2 = s.serial) ∧ (op ≠ 1 → ((TX.length : Nat) : Int) = ((s.tens.length : Nat) : Int)) ∧ (op = 1 → ((TX.length : Nat) : Int) = ((s.tens.length : Nat) : Int) + 1) := by
  obtain ⟨t, h1, h2, k, hk', hf, c2, c3, c4, c5, c5', c1n, c1⟩ := Pl.plan_done ho ho5 hr hp
  have hz := right_sz h2
  have hsz := planR_sz op s num hn hk
  rw [hp] at hsz
  have g1 := f_all (right_sz hr) (by have := (Rn.right_parts hr).1; omega) hsz.1 (Nat.le_trans hsz.2 (by decide))
  rw [h1] at g1
  have g2 := f_find hz n
  rw [hf] at g2
  have lT : (t.tens.map Vw.tenT).length = t.tens.length := by simp
  have lK : (t.tens[k].keys.map Vw.keyT).length = t.tens[k].keys.length := by simp
  refine ⟨t.tens.map Vw.tenT, t.serial, (k : Int), t.tens[k].name, t.tens[k].epoch, t.tens[k].next, t.tens[k].keys.map Vw.keyT, (newRes t n).1.num, (newRes t n).1.txt, (newRes t n).2, (keyRes t n num).1, (keyRes t n num).2, g1, g2, by omega, by omega, ?_, f_new hz n, f_key hz n num, ?_, ?_, ?_, c5, c5', ?_, ?_⟩
  · rw [Int.toNat_natCast]; simp [hk', Vw.tenT]
  · intro h; obtain ⟨a1, a2, a3, a4⟩ := c2 h; exact ⟨a1, a2, by omega, a4⟩
  · intro h; obtain ⟨a1, a2⟩ := c3 h; exact ⟨a1, by omega⟩
  · intro h; obtain ⟨a1, a2⟩ := c4 h; exact ⟨a1, by omega⟩
  · intro h; have := c1n h; omega
  · intro h; have := c1 h; omega
/-- the tenant that was there, or the zero one -/
theorem old_facts {s : Rn.S} {n : ByteArray} (hr : Rn.right s = true) :
    (findI s.tens n < 0 ∧ (Pl.tenAt s n).keys = [] ∧ (Pl.tenAt s n).epoch = 0) ∨
    (0 ≤ findI s.tens n ∧ findI s.tens n < ((s.tens.length : Nat) : Int) ∧ ∃ (yn : ByteArray) (yx : Int) (YK : Ab.Rows), (s.tens.map Vw.tenT)[(findI s.tens n).toNat]? = some [.flat (.string yn), .flat (.int .i64 (Pl.tenAt s n).epoch), .flat (.int .i64 yx), .slc YK] ∧
      ((YK.length : Nat) : Int) = (((Pl.tenAt s n).keys.length : Nat) : Int)) := by
  by_cases hf : findI s.tens n < 0
  · refine .inl ⟨hf, ?_⟩
    rw [(Pl.find_not hr (by omega)).2]
    exact ⟨rfl, rfl⟩
  · obtain ⟨i, hi, h1, h2, -⟩ := ten_there hr hf
    refine .inr ⟨by omega, by omega, s.tens[i].name, s.tens[i].next, s.tens[i].keys.map Vw.keyT, ?_, ?_⟩
    · rw [h1, Int.toNat_natCast, h2]; simp [hi, Vw.tenT]
    · rw [h2]; simp
theorem ten_bound {s : Rn.S} {n : ByteArray} (hr : Rn.right s = true) : (Pl.tenAt s n).keys.length ≤ 8 ∧ 0 ≤ (Pl.tenAt s n).epoch ∧ (Pl.tenAt s n).epoch ≤ 1099511627776 ∧ 0 ≤ s.serial ∧ s.serial ≤ 1099511627776 ∧ s.tens.length ≤ 16 := by
  obtain ⟨h1, h2, h3, h4⟩ := Rn.right_parts hr
  have h2 := Rn.fromB_iff.1 h2
  by_cases hf : findI s.tens n < 0
  · rw [(Pl.find_not hr (by omega)).2]
    exact ⟨Nat.zero_le _, Int.le_refl _, (show (0 : Int) ≤ 1099511627776 by decide), by omega, by omega, h1⟩
  · obtain ⟨i, hi, g1, g2, -, g3, g4, -⟩ := ten_there hr hf
    rw [g2]
    have := (Rn.ten_parts (h3 _ (List.getElem_mem hi))).2.2.2.1
    exact ⟨this, g3, g4, by omega, by omega, h1⟩
theorem does_law (s : Rn.S) (hs : SzS s) (a b : ByteArray) (num : Int) (ha : a.size ≤ maxLen) (hb : b.size ≤ maxLen) : Fun Try.prog 8 [stV s, .agg [fS a, fS b], fI .i64 num] (fB true) := by
  refine fun_of lay_ok Try.call8 Try.func8 rfl ?_
  rintro A ⟨ar, cmp, conj, ne0, ge0, conv, slen, scmp, cat, catok, sat, sin, ssub, ssin, llen, row, lsub, lsin, lset, lapp, lzero, room, roomz, ifb, pcall, call, draw, other, mki, asrt, inv⟩ Q hE hQ
  have h1 := f_great hs
  have h2 := f_right hs
  have hw := works40_f
  cases hg : greatS s with
  | true =>
    rw [hg] at h1
    unfold Vw.stV at h1 ⊢
    generalize s.tens.map Vw.tenT = X at *
    generalize s.serial = ser at *
    cbv
    repeat ((first | (refine r_true hE (rfl) ?_; trace "@1:0") | (refine r_false hE (rfl) ?_; trace "@1:1") | (refine use_fun hE h1 rfl rfl ?_; trace "@1:2") | (refine use_fun hE hw rfl rfl ?_; trace "@1:3")); cbv)
    exact (hQ _ _ _ rfl rfl rfl).1
  | false =>
  rw [hg] at h1
  cases hr : Rn.right s with
  | false =>
    rw [hr] at h2
    unfold Vw.stV at h1 h2 ⊢
    generalize s.tens.map Vw.tenT = X at *
    generalize s.serial = ser at *
    cbv
    repeat ((first | (refine r_true hE (rfl) ?_; trace "@2:0") | (refine r_false hE (rfl) ?_; trace "@2:1") | (refine use_fun hE h1 rfl rfl ?_; trace "@2:2") | (refine use_fun hE h2 rfl rfl ?_; trace "@2:3") | (refine use_fun hE hw rfl rfl ?_; trace "@2:4")); cbv)
    exact (hQ _ _ _ rfl rfl rfl).1
  | true =>
  rw [hr] at h2
  have la : slen a = ((a.size : Nat) : Int) := e_slen hE a
  by_cases h100 : 100 < a.size
  · have hl : (100 : Int) < slen a := by omega
    unfold Vw.stV at h1 h2 ⊢
    generalize s.tens.map Vw.tenT = X at *
    generalize s.serial = ser at *
    cbv
    repeat ((first | (refine r_true hE (rfl) ?_; trace "@3:0") | (refine r_false hE (rfl) ?_; trace "@3:1") | (refine r_true hE (y_gtr hE hl) ?_; trace "@3:2") | (refine use_fun hE h1 rfl rfl ?_; trace "@3:3") | (refine use_fun hE h2 rfl rfl ?_; trace "@3:4") | (refine use_fun hE hw rfl rfl ?_; trace "@3:5")); cbv)
    exact (hQ _ _ _ rfl rfl rfl).1
  have hl : ¬ (100 : Int) < slen a := by omega
  clear la
  have d1 := does1_f hs num ha hb
  have d2 := does2_f hs num ha hb
  have d3 := does3_f hs num ha hb
  have d4 := does4_f hs num ha hb
  have d5 := does5_f hs num ha hb
  have hF := f_find hs a
  have hO := old_facts (n := a) hr
  obtain ⟨b1, b2, b3, b4, b5, b6⟩ := ten_bound (n := a) hr
  have S := fun op l h1 h5 => @step_facts op s a b num l h1 h5 hr ha hb
  have lX : llen (s.tens.map Vw.tenT) = ((s.tens.length : Nat) : Int) := (e_llen hE _).trans (by simp)
  unfold Vw.plV Vw.evsV at d1 d2 d3 d4 d5
  unfold Vw.evsV at S
  unfold Vw.stV at h1 h2 d1 d2 d3 d4 d5 hF S ⊢
  generalize s.tens.map Vw.tenT = X at *
  generalize s.serial = ser at *
  generalize findI s.tens a = at_ at *
  generalize (Pl.tenAt s a).epoch = ye at *
  obtain ⟨yl, hyl⟩ : ∃ yl, yl = (Pl.tenAt s a).keys.length := ⟨_, rfl⟩
  have hy0 : (Pl.tenAt s a).keys = [] → yl = 0 := fun h => by rw [hyl, h]; rfl
  rw [← hyl] at b1
  simp only [← hyl] at hO S
  generalize (Pl.tenAt s a).keys = yks at *
  generalize s.tens.length = sl at *
  clear hs hr hg h100 hyl ha hb
  cbv
  repeat ((first | (refine r_true hE (rfl) ?_; trace "@4:0") | (refine r_false hE (rfl) ?_; trace "@4:1") | (refine r_false hE (n_gtr hE hl) ?_; trace "@4:2") | (refine use_fun hE h1 rfl rfl ?_; trace "@4:3") | (refine use_fun hE h2 rfl rfl ?_; trace "@4:4")); cbv)
  obtain ⟨J, hJJ⟩ : ∃ J : Nat → Int, J = fun j : Nat => (j : Int) := ⟨_, rfl⟩
  refine use_for hE lay_ok 2 (fun j => [(7, fI .i64 (J j))]) (fun j => []) (fun j => 1 ≤ j ∧ j ≤ 6) (fun j => 6 - j) 1 (by omega) ?_ ?_
  · cbv
    subst hJJ
    simp
  intro j hj Q' hN hR' hX'
  cbv
  obtain ⟨hj1, hj6⟩ := hj
  rcases (show j = 1 ∨ j = 2 ∨ j = 3 ∨ j = 4 ∨ j = 5 ∨ j = 6 by omega) with rfl | rfl | rfl | rfl | rfl | rfl
  · have hj : J 1 = 1 := by rw [hJJ]; rfl
    have hj2 : J 2 = 2 := by rw [hJJ]; rfl
    generalize J 1 = jj at *
    subst hj
    have hadd : ar .add .i64 1 1 = 2 := e_add hE (by decide) (by decide)
    have S := fun l => S 1 l (by decide) (by decide)
    obtain ⟨⟨l, x⟩, hp⟩ : ∃ r, Pl.planR 1 s a b num = r := ⟨_, rfl⟩
    rw [hp] at d1
    by_cases hx : x = 0
    case neg =>
      dsimp only at d1
      generalize l.map Vw.evT = R at *
      clear S
      as_aux_lemma =>
        repeat ((first | (refine r_true hE (y_leq hE (by decide)) ?_; trace "@5:0") | (refine use_fun hE d1 rfl rfl ?_; trace "@5:1") | (refine r_true hE (y_neq hE hx) ?_; trace "@5:2")); cbv)
        refine hN _ 2 (by omega) (by omega) ?_
        cbv
        simp [hj2, hadd]
    subst hx
    obtain ⟨TX, ser2, kk, xn, xe, xx, XK, kn, kt, hb, ot, ob, g1, g2, k0, k1, k2, g3, g4, c2, c3, c4, c5, c5', c1n, c1⟩ := S l hp
    dsimp only at d1
    clear S hp
    generalize l.map Vw.evT = R at *
    have lT : llen TX = ((TX.length : Nat) : Int) := e_llen hE TX
    have lK : llen XK = ((XK.length : Nat) : Int) := e_llen hE XK
    have k1 : kk < ((TX.length : Nat) : Int) := k1
    have lX : llen X = ((sl : Nat) : Int) := lX
    have n0 : ¬ kk < 0 := by omega
    have n1 : ¬ llen TX ≤ kk := by omega
    obtain ⟨rfl, rfl, q1, rfl⟩ := c2 (by decide)
    have q1 : ((XK.length : Nat) : Int) = ((yl : Nat) : Int) + 1 := q1
    obtain rfl := c5' (by decide)
    have q5 : ((TX.length : Nat) : Int) = ((sl : Nat) : Int) + 1 := c1 rfl
    have q6 : ar .add .i64 (llen X) 1 = llen X + 1 := e_add hE (by omega) (by omega)
    have z2 : llen TX = ar .add .i64 (llen X) 1 := by omega
    rcases hO with ⟨hO1, hO2, rfl⟩ | ⟨hO1, hO2, yn, yx, YK, hO3, hO4⟩
    · have hyz := hy0 hO2
      have m0 : ¬ 0 ≤ at_ := by omega
      have z5 : ar .add .i64 0 1 = 0 + 1 := e_add hE (by omega) (by omega)
      have z3 : llen XK = ar .add .i64 0 1 := by omega
      as_aux_lemma =>
        repeat ((first | (refine r_true hE (y_leq hE (by decide)) ?_; trace "@6:0") | (refine r_false hE (n_leq hE (by decide)) ?_; trace "@6:1") | (refine use_fun hE d1 rfl rfl ?_; trace "@6:2") | (refine r_false hE (n_neq hE rfl) ?_; trace "@6:3") | (refine r_true hE (y_neq hE (by decide)) ?_; trace "@6:4") | (refine r_true hE (y_eql hE rfl) ?_; trace "@6:5") | (refine r_false hE (n_eql hE (by decide)) ?_; trace "@6:6") | (refine r_true hE (y_lss hE (by decide)) ?_; trace "@6:7") | (refine r_false hE (n_lss hE (by decide)) ?_; trace "@6:8") | (refine use_fun hE g1 rfl rfl ?_; trace "@6:9") | (refine use_fun hE g2 rfl rfl ?_; trace "@6:10") | (refine use_fun hE g3 rfl rfl ?_; trace "@6:11") | (refine use_fun hE g4 rfl rfl ?_; trace "@6:12") | (refine use_fun hE hF rfl rfl ?_; trace "@6:13") | (refine r_false hE (n_lss hE n0) ?_; trace "@6:14") | (refine r_false hE (n_geq hE n1) ?_; trace "@6:15") | (refine r_row hE k0 k2 ?_; trace "@6:16") | (refine r_true hE (rfl) ?_; trace "@6:17") | (refine r_false hE (rfl) ?_; trace "@6:18") | (refine r_false hE (n_sneq hE rfl) ?_; trace "@6:19") | (refine r_false hE (n_neq hE z2) ?_; trace "@6:20") | (refine r_false hE (n_geq hE m0) ?_; trace "@6:21") | (refine r_false hE (n_neq hE z3) ?_; trace "@6:22")); cbv)
        refine hN _ 2 (by omega) (by omega) ?_
        cbv
        simp [hj2, hadd]
    · have hO4 : ((YK.length : Nat) : Int) = ((yl : Nat) : Int) := hO4
      have lY : llen YK = ((YK.length : Nat) : Int) := e_llen hE YK
      have hO2 : at_ < ((sl : Nat) : Int) := hO2
      have m1 : at_ < llen X := by omega
      have z5 : ar .add .i64 (llen YK) 1 = (llen YK) + 1 := e_add hE (by omega) (by omega)
      have z3 : llen XK = ar .add .i64 (llen YK) 1 := by omega
      as_aux_lemma =>
        repeat ((first | (refine r_true hE (y_leq hE (by decide)) ?_; trace "@7:0") | (refine r_false hE (n_leq hE (by decide)) ?_; trace "@7:1") | (refine use_fun hE d1 rfl rfl ?_; trace "@7:2") | (refine r_false hE (n_neq hE rfl) ?_; trace "@7:3") | (refine r_true hE (y_neq hE (by decide)) ?_; trace "@7:4") | (refine r_true hE (y_eql hE rfl) ?_; trace "@7:5") | (refine r_false hE (n_eql hE (by decide)) ?_; trace "@7:6") | (refine r_true hE (y_lss hE (by decide)) ?_; trace "@7:7") | (refine r_false hE (n_lss hE (by decide)) ?_; trace "@7:8") | (refine use_fun hE g1 rfl rfl ?_; trace "@7:9") | (refine use_fun hE g2 rfl rfl ?_; trace "@7:10") | (refine use_fun hE g3 rfl rfl ?_; trace "@7:11") | (refine use_fun hE g4 rfl rfl ?_; trace "@7:12") | (refine use_fun hE hF rfl rfl ?_; trace "@7:13") | (refine r_false hE (n_lss hE n0) ?_; trace "@7:14") | (refine r_false hE (n_geq hE n1) ?_; trace "@7:15") | (refine r_row hE k0 k2 ?_; trace "@7:16") | (refine r_true hE (rfl) ?_; trace "@7:17") | (refine r_false hE (rfl) ?_; trace "@7:18") | (refine r_false hE (n_sneq hE rfl) ?_; trace "@7:19") | (refine r_false hE (n_neq hE z2) ?_; trace "@7:20") | (refine r_true hE (y_geq hE hO1) ?_; trace "@7:21") | (refine r_true hE (y_lss hE m1) ?_; trace "@7:22") | (refine r_row hE hO1 hO3 ?_; trace "@7:23") | (refine r_false hE (n_neq hE z3) ?_; trace "@7:24")); cbv)
        refine hN _ 2 (by omega) (by omega) ?_
        cbv
        simp [hj2, hadd]
  · have hj : J 2 = 2 := by rw [hJJ]; rfl
    have hj2 : J 3 = 3 := by rw [hJJ]; rfl
    generalize J 2 = jj at *
    subst hj
    have hadd : ar .add .i64 2 1 = 3 := e_add hE (by decide) (by decide)
    have S := fun l => S 2 l (by decide) (by decide)
    obtain ⟨⟨l, x⟩, hp⟩ : ∃ r, Pl.planR 2 s a b num = r := ⟨_, rfl⟩
    rw [hp] at d2
    by_cases hx : x = 0
    case neg =>
      dsimp only at d2
      generalize l.map Vw.evT = R at *
      clear S
      as_aux_lemma =>
        repeat ((first | (refine r_true hE (y_leq hE (by decide)) ?_; trace "@8:0") | (refine use_fun hE d2 rfl rfl ?_; trace "@8:1") | (refine r_true hE (y_neq hE hx) ?_; trace "@8:2")); cbv)
        refine hN _ 3 (by omega) (by omega) ?_
        cbv
        simp [hj2, hadd]
    subst hx
    obtain ⟨TX, ser2, kk, xn, xe, xx, XK, kn, kt, hb, ot, ob, g1, g2, k0, k1, k2, g3, g4, c2, c3, c4, c5, c5', c1n, c1⟩ := S l hp
    dsimp only at d2
    clear S hp
    generalize l.map Vw.evT = R at *
    have lT : llen TX = ((TX.length : Nat) : Int) := e_llen hE TX
    have lK : llen XK = ((XK.length : Nat) : Int) := e_llen hE XK
    have k1 : kk < ((TX.length : Nat) : Int) := k1
    have lX : llen X = ((sl : Nat) : Int) := lX
    have n0 : ¬ kk < 0 := by omega
    have n1 : ¬ llen TX ≤ kk := by omega
    obtain ⟨rfl, rfl, q1, rfl⟩ := c2 (by decide)
    have q1 : ((XK.length : Nat) : Int) = ((yl : Nat) : Int) + 1 := q1
    obtain rfl := c5' (by decide)
    have q5 : ((TX.length : Nat) : Int) = ((sl : Nat) : Int) := c1n (by decide)
    have z2 : llen TX = llen X := by omega
    rcases hO with ⟨hO1, hO2, rfl⟩ | ⟨hO1, hO2, yn, yx, YK, hO3, hO4⟩
    · have hyz := hy0 hO2
      have m0 : ¬ 0 ≤ at_ := by omega
      have z5 : ar .add .i64 0 1 = 0 + 1 := e_add hE (by omega) (by omega)
      have z3 : llen XK = ar .add .i64 0 1 := by omega
      as_aux_lemma =>
        repeat ((first | (refine r_true hE (y_leq hE (by decide)) ?_; trace "@9:0") | (refine r_false hE (n_leq hE (by decide)) ?_; trace "@9:1") | (refine use_fun hE d2 rfl rfl ?_; trace "@9:2") | (refine r_false hE (n_neq hE rfl) ?_; trace "@9:3") | (refine r_true hE (y_neq hE (by decide)) ?_; trace "@9:4") | (refine r_true hE (y_eql hE rfl) ?_; trace "@9:5") | (refine r_false hE (n_eql hE (by decide)) ?_; trace "@9:6") | (refine r_true hE (y_lss hE (by decide)) ?_; trace "@9:7") | (refine r_false hE (n_lss hE (by decide)) ?_; trace "@9:8") | (refine use_fun hE g1 rfl rfl ?_; trace "@9:9") | (refine use_fun hE g2 rfl rfl ?_; trace "@9:10") | (refine use_fun hE g3 rfl rfl ?_; trace "@9:11") | (refine use_fun hE g4 rfl rfl ?_; trace "@9:12") | (refine use_fun hE hF rfl rfl ?_; trace "@9:13") | (refine r_false hE (n_lss hE n0) ?_; trace "@9:14") | (refine r_false hE (n_geq hE n1) ?_; trace "@9:15") | (refine r_row hE k0 k2 ?_; trace "@9:16") | (refine r_true hE (rfl) ?_; trace "@9:17") | (refine r_false hE (rfl) ?_; trace "@9:18") | (refine r_false hE (n_sneq hE rfl) ?_; trace "@9:19") | (refine r_false hE (n_neq hE z2) ?_; trace "@9:20") | (refine r_false hE (n_geq hE m0) ?_; trace "@9:21") | (refine r_false hE (n_neq hE z3) ?_; trace "@9:22")); cbv)
        refine hN _ 3 (by omega) (by omega) ?_
        cbv
        simp [hj2, hadd]
    · have hO4 : ((YK.length : Nat) : Int) = ((yl : Nat) : Int) := hO4
      have lY : llen YK = ((YK.length : Nat) : Int) := e_llen hE YK
      have hO2 : at_ < ((sl : Nat) : Int) := hO2
      have m1 : at_ < llen X := by omega
      have z5 : ar .add .i64 (llen YK) 1 = (llen YK) + 1 := e_add hE (by omega) (by omega)
      have z3 : llen XK = ar .add .i64 (llen YK) 1 := by omega
      as_aux_lemma =>
        repeat ((first | (refine r_true hE (y_leq hE (by decide)) ?_; trace "@10:0") | (refine r_false hE (n_leq hE (by decide)) ?_; trace "@10:1") | (refine use_fun hE d2 rfl rfl ?_; trace "@10:2") | (refine r_false hE (n_neq hE rfl) ?_; trace "@10:3") | (refine r_true hE (y_neq hE (by decide)) ?_; trace "@10:4") | (refine r_true hE (y_eql hE rfl) ?_; trace "@10:5") | (refine r_false hE (n_eql hE (by decide)) ?_; trace "@10:6") | (refine r_true hE (y_lss hE (by decide)) ?_; trace "@10:7") | (refine r_false hE (n_lss hE (by decide)) ?_; trace "@10:8") | (refine use_fun hE g1 rfl rfl ?_; trace "@10:9") | (refine use_fun hE g2 rfl rfl ?_; trace "@10:10") | (refine use_fun hE g3 rfl rfl ?_; trace "@10:11") | (refine use_fun hE g4 rfl rfl ?_; trace "@10:12") | (refine use_fun hE hF rfl rfl ?_; trace "@10:13") | (refine r_false hE (n_lss hE n0) ?_; trace "@10:14") | (refine r_false hE (n_geq hE n1) ?_; trace "@10:15") | (refine r_row hE k0 k2 ?_; trace "@10:16") | (refine r_true hE (rfl) ?_; trace "@10:17") | (refine r_false hE (rfl) ?_; trace "@10:18") | (refine r_false hE (n_sneq hE rfl) ?_; trace "@10:19") | (refine r_false hE (n_neq hE z2) ?_; trace "@10:20") | (refine r_true hE (y_geq hE hO1) ?_; trace "@10:21") | (refine r_true hE (y_lss hE m1) ?_; trace "@10:22") | (refine r_row hE hO1 hO3 ?_; trace "@10:23") | (refine r_false hE (n_neq hE z3) ?_; trace "@10:24")); cbv)
        refine hN _ 3 (by omega) (by omega) ?_
        cbv
        simp [hj2, hadd]
  · have hj : J 3 = 3 := by rw [hJJ]; rfl
    have hj2 : J 4 = 4 := by rw [hJJ]; rfl
    generalize J 3 = jj at *
    subst hj
    have hadd : ar .add .i64 3 1 = 4 := e_add hE (by decide) (by decide)
    have S := fun l => S 3 l (by decide) (by decide)
    obtain ⟨⟨l, x⟩, hp⟩ : ∃ r, Pl.planR 3 s a b num = r := ⟨_, rfl⟩
    rw [hp] at d3
    by_cases hx : x = 0
    case neg =>
      dsimp only at d3
      generalize l.map Vw.evT = R at *
      clear S
      as_aux_lemma =>
        repeat ((first | (refine r_true hE (y_leq hE (by decide)) ?_; trace "@11:0") | (refine use_fun hE d3 rfl rfl ?_; trace "@11:1") | (refine r_true hE (y_neq hE hx) ?_; trace "@11:2")); cbv)
        refine hN _ 4 (by omega) (by omega) ?_
        cbv
        simp [hj2, hadd]
    subst hx
    obtain ⟨TX, ser2, kk, xn, xe, xx, XK, kn, kt, hb, ot, ob, g1, g2, k0, k1, k2, g3, g4, c2, c3, c4, c5, c5', c1n, c1⟩ := S l hp
    dsimp only at d3
    clear S hp
    generalize l.map Vw.evT = R at *
    have lT : llen TX = ((TX.length : Nat) : Int) := e_llen hE TX
    have lK : llen XK = ((XK.length : Nat) : Int) := e_llen hE XK
    have k1 : kk < ((TX.length : Nat) : Int) := k1
    have lX : llen X = ((sl : Nat) : Int) := lX
    have n0 : ¬ kk < 0 := by omega
    have n1 : ¬ llen TX ≤ kk := by omega
    obtain ⟨rfl, q1⟩ := c3 rfl
    have q1 : ((XK.length : Nat) : Int) = ((yl : Nat) : Int) - 1 := q1
    obtain rfl := c5' (by decide)
    have q5 : ((TX.length : Nat) : Int) = ((sl : Nat) : Int) := c1n (by decide)
    have z2 : llen TX = llen X := by omega
    rcases hO with ⟨hO1, hO2, rfl⟩ | ⟨hO1, hO2, yn, yx, YK, hO3, hO4⟩
    · have hyz := hy0 hO2
      have m0 : ¬ 0 ≤ at_ := by omega
      have z5 : ar .sub .i64 0 1 = 0 - 1 := e_sub hE (by omega) (by omega)
      have z3 : llen XK = ar .sub .i64 0 1 := by omega
      as_aux_lemma =>
        repeat ((first | (refine r_true hE (y_leq hE (by decide)) ?_; trace "@12:0") | (refine r_false hE (n_leq hE (by decide)) ?_; trace "@12:1") | (refine use_fun hE d3 rfl rfl ?_; trace "@12:2") | (refine r_false hE (n_neq hE rfl) ?_; trace "@12:3") | (refine r_true hE (y_neq hE (by decide)) ?_; trace "@12:4") | (refine r_true hE (y_eql hE rfl) ?_; trace "@12:5") | (refine r_false hE (n_eql hE (by decide)) ?_; trace "@12:6") | (refine r_true hE (y_lss hE (by decide)) ?_; trace "@12:7") | (refine r_false hE (n_lss hE (by decide)) ?_; trace "@12:8") | (refine use_fun hE g1 rfl rfl ?_; trace "@12:9") | (refine use_fun hE g2 rfl rfl ?_; trace "@12:10") | (refine use_fun hE g3 rfl rfl ?_; trace "@12:11") | (refine use_fun hE g4 rfl rfl ?_; trace "@12:12") | (refine use_fun hE hF rfl rfl ?_; trace "@12:13") | (refine r_false hE (n_lss hE n0) ?_; trace "@12:14") | (refine r_false hE (n_geq hE n1) ?_; trace "@12:15") | (refine r_row hE k0 k2 ?_; trace "@12:16") | (refine r_true hE (rfl) ?_; trace "@12:17") | (refine r_false hE (rfl) ?_; trace "@12:18") | (refine r_false hE (n_sneq hE rfl) ?_; trace "@12:19") | (refine r_false hE (n_neq hE z2) ?_; trace "@12:20") | (refine r_false hE (n_geq hE m0) ?_; trace "@12:21") | (refine r_false hE (n_neq hE z3) ?_; trace "@12:22")); cbv)
        refine hN _ 4 (by omega) (by omega) ?_
        cbv
        simp [hj2, hadd]
    · have hO4 : ((YK.length : Nat) : Int) = ((yl : Nat) : Int) := hO4
      have lY : llen YK = ((YK.length : Nat) : Int) := e_llen hE YK
      have hO2 : at_ < ((sl : Nat) : Int) := hO2
      have m1 : at_ < llen X := by omega
      have z5 : ar .sub .i64 (llen YK) 1 = (llen YK) - 1 := e_sub hE (by omega) (by omega)
      have z3 : llen XK = ar .sub .i64 (llen YK) 1 := by omega
      as_aux_lemma =>
        repeat ((first | (refine r_true hE (y_leq hE (by decide)) ?_; trace "@13:0") | (refine r_false hE (n_leq hE (by decide)) ?_; trace "@13:1") | (refine use_fun hE d3 rfl rfl ?_; trace "@13:2") | (refine r_false hE (n_neq hE rfl) ?_; trace "@13:3") | (refine r_true hE (y_neq hE (by decide)) ?_; trace "@13:4") | (refine r_true hE (y_eql hE rfl) ?_; trace "@13:5") | (refine r_false hE (n_eql hE (by decide)) ?_; trace "@13:6") | (refine r_true hE (y_lss hE (by decide)) ?_; trace "@13:7") | (refine r_false hE (n_lss hE (by decide)) ?_; trace "@13:8") | (refine use_fun hE g1 rfl rfl ?_; trace "@13:9") | (refine use_fun hE g2 rfl rfl ?_; trace "@13:10") | (refine use_fun hE g3 rfl rfl ?_; trace "@13:11") | (refine use_fun hE g4 rfl rfl ?_; trace "@13:12") | (refine use_fun hE hF rfl rfl ?_; trace "@13:13") | (refine r_false hE (n_lss hE n0) ?_; trace "@13:14") | (refine r_false hE (n_geq hE n1) ?_; trace "@13:15") | (refine r_row hE k0 k2 ?_; trace "@13:16") | (refine r_true hE (rfl) ?_; trace "@13:17") | (refine r_false hE (rfl) ?_; trace "@13:18") | (refine r_false hE (n_sneq hE rfl) ?_; trace "@13:19") | (refine r_false hE (n_neq hE z2) ?_; trace "@13:20") | (refine r_true hE (y_geq hE hO1) ?_; trace "@13:21") | (refine r_true hE (y_lss hE m1) ?_; trace "@13:22") | (refine r_row hE hO1 hO3 ?_; trace "@13:23") | (refine r_false hE (n_neq hE z3) ?_; trace "@13:24")); cbv)
        refine hN _ 4 (by omega) (by omega) ?_
        cbv
        simp [hj2, hadd]
  · have hj : J 4 = 4 := by rw [hJJ]; rfl
    have hj2 : J 5 = 5 := by rw [hJJ]; rfl
    generalize J 4 = jj at *
    subst hj
    have hadd : ar .add .i64 4 1 = 5 := e_add hE (by decide) (by decide)
    have S := fun l => S 4 l (by decide) (by decide)
    obtain ⟨⟨l, x⟩, hp⟩ : ∃ r, Pl.planR 4 s a b num = r := ⟨_, rfl⟩
    rw [hp] at d4
    by_cases hx : x = 0
    case neg =>
      dsimp only at d4
      generalize l.map Vw.evT = R at *
      clear S
      as_aux_lemma =>
        repeat ((first | (refine r_true hE (y_leq hE (by decide)) ?_; trace "@14:0") | (refine use_fun hE d4 rfl rfl ?_; trace "@14:1") | (refine r_true hE (y_neq hE hx) ?_; trace "@14:2")); cbv)
        refine hN _ 5 (by omega) (by omega) ?_
        cbv
        simp [hj2, hadd]
    subst hx
    obtain ⟨TX, ser2, kk, xn, xe, xx, XK, kn, kt, hb, ot, ob, g1, g2, k0, k1, k2, g3, g4, c2, c3, c4, c5, c5', c1n, c1⟩ := S l hp
    dsimp only at d4
    clear S hp
    generalize l.map Vw.evT = R at *
    have lT : llen TX = ((TX.length : Nat) : Int) := e_llen hE TX
    have lK : llen XK = ((XK.length : Nat) : Int) := e_llen hE XK
    have k1 : kk < ((TX.length : Nat) : Int) := k1
    have lX : llen X = ((sl : Nat) : Int) := lX
    have n0 : ¬ kk < 0 := by omega
    have n1 : ¬ llen TX ≤ kk := by omega
    obtain ⟨q2, q1⟩ := c4 rfl
    have q1 : ((XK.length : Nat) : Int) = ((yl : Nat) : Int) := q1
    obtain rfl := c5' (by decide)
    have q5 : ((TX.length : Nat) : Int) = ((sl : Nat) : Int) := c1n (by decide)
    have z2 : llen TX = llen X := by omega
    rcases hO with ⟨hO1, hO2, rfl⟩ | ⟨hO1, hO2, yn, yx, YK, hO3, hO4⟩
    · have hyz := hy0 hO2
      have m0 : ¬ 0 ≤ at_ := by omega
      have z3 : llen XK = 0 := by omega
      have z4 : xe = ar .add .i64 0 1 := by rw [show ar .add .i64 0 1 = 0 + 1 from e_add hE (by omega) (by omega)]; exact q2
      as_aux_lemma =>
        repeat ((first | (refine r_true hE (y_leq hE (by decide)) ?_; trace "@15:0") | (refine r_false hE (n_leq hE (by decide)) ?_; trace "@15:1") | (refine use_fun hE d4 rfl rfl ?_; trace "@15:2") | (refine r_false hE (n_neq hE rfl) ?_; trace "@15:3") | (refine r_true hE (y_neq hE (by decide)) ?_; trace "@15:4") | (refine r_true hE (y_eql hE rfl) ?_; trace "@15:5") | (refine r_false hE (n_eql hE (by decide)) ?_; trace "@15:6") | (refine r_true hE (y_lss hE (by decide)) ?_; trace "@15:7") | (refine r_false hE (n_lss hE (by decide)) ?_; trace "@15:8") | (refine use_fun hE g1 rfl rfl ?_; trace "@15:9") | (refine use_fun hE g2 rfl rfl ?_; trace "@15:10") | (refine use_fun hE g3 rfl rfl ?_; trace "@15:11") | (refine use_fun hE g4 rfl rfl ?_; trace "@15:12") | (refine use_fun hE hF rfl rfl ?_; trace "@15:13") | (refine r_false hE (n_lss hE n0) ?_; trace "@15:14") | (refine r_false hE (n_geq hE n1) ?_; trace "@15:15") | (refine r_row hE k0 k2 ?_; trace "@15:16") | (refine r_true hE (rfl) ?_; trace "@15:17") | (refine r_false hE (rfl) ?_; trace "@15:18") | (refine r_false hE (n_sneq hE rfl) ?_; trace "@15:19") | (refine r_false hE (n_neq hE z2) ?_; trace "@15:20") | (refine r_false hE (n_geq hE m0) ?_; trace "@15:21") | (refine r_false hE (n_neq hE z3) ?_; trace "@15:22") | (refine r_false hE (n_neq hE z4) ?_; trace "@15:23")); cbv)
        refine hN _ 5 (by omega) (by omega) ?_
        cbv
        simp [hj2, hadd]
    · have hO4 : ((YK.length : Nat) : Int) = ((yl : Nat) : Int) := hO4
      have lY : llen YK = ((YK.length : Nat) : Int) := e_llen hE YK
      have hO2 : at_ < ((sl : Nat) : Int) := hO2
      have m1 : at_ < llen X := by omega
      have z3 : llen XK = (llen YK) := by omega
      have z4 : xe = ar .add .i64 ye 1 := by rw [show ar .add .i64 ye 1 = ye + 1 from e_add hE (by omega) (by omega)]; exact q2
      as_aux_lemma =>
        repeat ((first | (refine r_true hE (y_leq hE (by decide)) ?_; trace "@16:0") | (refine r_false hE (n_leq hE (by decide)) ?_; trace "@16:1") | (refine use_fun hE d4 rfl rfl ?_; trace "@16:2") | (refine r_false hE (n_neq hE rfl) ?_; trace "@16:3") | (refine r_true hE (y_neq hE (by decide)) ?_; trace "@16:4") | (refine r_true hE (y_eql hE rfl) ?_; trace "@16:5") | (refine r_false hE (n_eql hE (by decide)) ?_; trace "@16:6") | (refine r_true hE (y_lss hE (by decide)) ?_; trace "@16:7") | (refine r_false hE (n_lss hE (by decide)) ?_; trace "@16:8") | (refine use_fun hE g1 rfl rfl ?_; trace "@16:9") | (refine use_fun hE g2 rfl rfl ?_; trace "@16:10") | (refine use_fun hE g3 rfl rfl ?_; trace "@16:11") | (refine use_fun hE g4 rfl rfl ?_; trace "@16:12") | (refine use_fun hE hF rfl rfl ?_; trace "@16:13") | (refine r_false hE (n_lss hE n0) ?_; trace "@16:14") | (refine r_false hE (n_geq hE n1) ?_; trace "@16:15") | (refine r_row hE k0 k2 ?_; trace "@16:16") | (refine r_true hE (rfl) ?_; trace "@16:17") | (refine r_false hE (rfl) ?_; trace "@16:18") | (refine r_false hE (n_sneq hE rfl) ?_; trace "@16:19") | (refine r_false hE (n_neq hE z2) ?_; trace "@16:20") | (refine r_true hE (y_geq hE hO1) ?_; trace "@16:21") | (refine r_true hE (y_lss hE m1) ?_; trace "@16:22") | (refine r_row hE hO1 hO3 ?_; trace "@16:23") | (refine r_false hE (n_neq hE z3) ?_; trace "@16:24") | (refine r_false hE (n_neq hE z4) ?_; trace "@16:25")); cbv)
        refine hN _ 5 (by omega) (by omega) ?_
        cbv
        simp [hj2, hadd]
  · have hj : J 5 = 5 := by rw [hJJ]; rfl
    have hj2 : J 6 = 6 := by rw [hJJ]; rfl
    generalize J 5 = jj at *
    subst hj
    have hadd : ar .add .i64 5 1 = 6 := e_add hE (by decide) (by decide)
    have S := fun l => S 5 l (by decide) (by decide)
    obtain ⟨⟨l, x⟩, hp⟩ : ∃ r, Pl.planR 5 s a b num = r := ⟨_, rfl⟩
    rw [hp] at d5
    by_cases hx : x = 0
    case neg =>
      dsimp only at d5
      generalize l.map Vw.evT = R at *
      clear S
      as_aux_lemma =>
        repeat ((first | (refine r_true hE (y_leq hE (by decide)) ?_; trace "@17:0") | (refine use_fun hE d5 rfl rfl ?_; trace "@17:1") | (refine r_true hE (y_neq hE hx) ?_; trace "@17:2")); cbv)
        refine hN _ 6 (by omega) (by omega) ?_
        cbv
        simp [hj2, hadd]
    subst hx
    obtain ⟨TX, ser2, kk, xn, xe, xx, XK, kn, kt, hb, ot, ob, g1, g2, k0, k1, k2, g3, g4, c2, c3, c4, c5, c5', c1n, c1⟩ := S l hp
    dsimp only at d5
    clear S hp
    generalize l.map Vw.evT = R at *
    have lT : llen TX = ((TX.length : Nat) : Int) := e_llen hE TX
    have lK : llen XK = ((XK.length : Nat) : Int) := e_llen hE XK
    have k1 : kk < ((TX.length : Nat) : Int) := k1
    have lX : llen X = ((sl : Nat) : Int) := lX
    have n0 : ¬ kk < 0 := by omega
    have n1 : ¬ llen TX ≤ kk := by omega
    have q3 := c5 rfl
    have q4 : ar .add .i64 ser 1 = ser + 1 := e_add hE (by omega) (by omega)
    have z1 : ser2 = ar .add .i64 ser 1 := by rw [q4]; exact q3
    have q5 : ((TX.length : Nat) : Int) = ((sl : Nat) : Int) := c1n (by decide)
    have z2 : llen TX = llen X := by omega
    rcases hO with ⟨hO1, hO2, rfl⟩ | ⟨hO1, hO2, yn, yx, YK, hO3, hO4⟩
    · have hyz := hy0 hO2
      have m0 : ¬ 0 ≤ at_ := by omega
      as_aux_lemma =>
        repeat ((first | (refine r_true hE (y_leq hE (by decide)) ?_; trace "@18:0") | (refine r_false hE (n_leq hE (by decide)) ?_; trace "@18:1") | (refine use_fun hE d5 rfl rfl ?_; trace "@18:2") | (refine r_false hE (n_neq hE rfl) ?_; trace "@18:3") | (refine r_true hE (y_neq hE (by decide)) ?_; trace "@18:4") | (refine r_true hE (y_eql hE rfl) ?_; trace "@18:5") | (refine r_false hE (n_eql hE (by decide)) ?_; trace "@18:6") | (refine r_true hE (y_lss hE (by decide)) ?_; trace "@18:7") | (refine r_false hE (n_lss hE (by decide)) ?_; trace "@18:8") | (refine use_fun hE g1 rfl rfl ?_; trace "@18:9") | (refine use_fun hE g2 rfl rfl ?_; trace "@18:10") | (refine use_fun hE g3 rfl rfl ?_; trace "@18:11") | (refine use_fun hE g4 rfl rfl ?_; trace "@18:12") | (refine use_fun hE hF rfl rfl ?_; trace "@18:13") | (refine r_false hE (n_lss hE n0) ?_; trace "@18:14") | (refine r_false hE (n_geq hE n1) ?_; trace "@18:15") | (refine r_row hE k0 k2 ?_; trace "@18:16") | (refine r_true hE (rfl) ?_; trace "@18:17") | (refine r_false hE (rfl) ?_; trace "@18:18") | (refine r_false hE (n_sneq hE rfl) ?_; trace "@18:19") | (refine r_false hE (n_neq hE z1) ?_; trace "@18:20") | (refine r_false hE (n_neq hE z2) ?_; trace "@18:21") | (refine r_false hE (n_geq hE m0) ?_; trace "@18:22")); cbv)
        refine hN _ 6 (by omega) (by omega) ?_
        cbv
        simp [hj2, hadd]
    · have hO4 : ((YK.length : Nat) : Int) = ((yl : Nat) : Int) := hO4
      have lY : llen YK = ((YK.length : Nat) : Int) := e_llen hE YK
      have hO2 : at_ < ((sl : Nat) : Int) := hO2
      have m1 : at_ < llen X := by omega
      as_aux_lemma =>
        repeat ((first | (refine r_true hE (y_leq hE (by decide)) ?_; trace "@19:0") | (refine r_false hE (n_leq hE (by decide)) ?_; trace "@19:1") | (refine use_fun hE d5 rfl rfl ?_; trace "@19:2") | (refine r_false hE (n_neq hE rfl) ?_; trace "@19:3") | (refine r_true hE (y_neq hE (by decide)) ?_; trace "@19:4") | (refine r_true hE (y_eql hE rfl) ?_; trace "@19:5") | (refine r_false hE (n_eql hE (by decide)) ?_; trace "@19:6") | (refine r_true hE (y_lss hE (by decide)) ?_; trace "@19:7") | (refine r_false hE (n_lss hE (by decide)) ?_; trace "@19:8") | (refine use_fun hE g1 rfl rfl ?_; trace "@19:9") | (refine use_fun hE g2 rfl rfl ?_; trace "@19:10") | (refine use_fun hE g3 rfl rfl ?_; trace "@19:11") | (refine use_fun hE g4 rfl rfl ?_; trace "@19:12") | (refine use_fun hE hF rfl rfl ?_; trace "@19:13") | (refine r_false hE (n_lss hE n0) ?_; trace "@19:14") | (refine r_false hE (n_geq hE n1) ?_; trace "@19:15") | (refine r_row hE k0 k2 ?_; trace "@19:16") | (refine r_true hE (rfl) ?_; trace "@19:17") | (refine r_false hE (rfl) ?_; trace "@19:18") | (refine r_false hE (n_sneq hE rfl) ?_; trace "@19:19") | (refine r_false hE (n_neq hE z1) ?_; trace "@19:20") | (refine r_false hE (n_neq hE z2) ?_; trace "@19:21") | (refine r_true hE (y_geq hE hO1) ?_; trace "@19:22") | (refine r_true hE (y_lss hE m1) ?_; trace "@19:23") | (refine r_row hE hO1 hO3 ?_; trace "@19:24")); cbv)
        refine hN _ 6 (by omega) (by omega) ?_
        cbv
        simp [hj2, hadd]
  · have hj : J 6 = 6 := by rw [hJJ]; rfl
    generalize J 6 = jj at *
    subst hj
    repeat ((first | (refine r_false hE (n_leq hE (by decide)) ?_; trace "@20:0")); cbv)
    refine hX' _ _ ?_
    cbv
    repeat ((first | (refine use_fun hE hw rfl rfl ?_; trace "@21:0")); cbv)
    exact (hQ _ _ _ rfl rfl rfl).1
end Go.Proofs.Ytgcgilcalmefgaa
