/- The bodies do what the plain functions tell. -/
import Derived.Test.YtampjnpnekekiaaGreatDoorK231
import Derived.Test.YtampjnpnekekiaaGreatDoorK238
import Derived.Test.YtampjnpnekekiaaGreatDoorK239
namespace Go.Proofs.YtampjnpnekekiaaGreatDoor
open Go Go.RowKit
set_option linter.unusedVariables false
set_option linter.unusedSimpArgs false
set_option maxRecDepth 100000
set_option maxHeartbeats 4000000
open Ab Sh
namespace Gn
theorem matcher_like_ask_w {N : Nat} {p0 : Gmatcher_like} {p1 : ByteArray} {r : Bool} (h : matcher_like_ask_g N p0 p1 = some r) : FunS Tryz.prog 148 [.agg [fI .i64 p0.node.kind, fI .u64 (p0.node.set.a.toNat : Int), fI .u64 (p0.node.set.b.toNat : Int), fI .u64 (p0.node.set.c.toNat : Int), fI .u64 (p0.node.set.d.toNat : Int), .t (.slc (rw _ nodeRow p0.node.kids)), fI .i64 p0.node.min, fI .i64 p0.node.max], fS p1] (matcher_like_ask_s rw) r := by
  refine fun_w lay_ok Tryz.call148 Tryz.func148 rfl ?_
  intro A W E Q R hE hR hf hQ; rcases W with ⟨ar, cm, conj, cv, sl, sc, ct, sa, ss, ll, _, _, _, _, mi, mx, _, _, _⟩
  rw [← hR]
  unfold matcher_like_ask_g at h
  skip
  cbv
  refine L_call hE hR h (fun _ e => match_Match_w e) (by subst hR; rfl) rfl fun a1 h => ?_; cbv
  exact And.left (hQ _ _ _ rfl rfl (by cases h; subst hR; rfl))
theorem matcher_Test_w {N : Nat} {p0 : GMatcher} {p1 : ByteArray} {r : Bool} (h : matcher_Test_g N p0 p1 = some r) : FunS Tryz.prog 10 [.agg [fS p0.Name, fI .i64 p0.Op, fS p0.Value], fS p1] (matcher_Test_s rw) r := by
  refine fun_w lay_ok Tryz.call10 Tryz.func10 rfl ?_
  intro A W E Q R hE hR hf hQ; rcases W with ⟨ar, cm, conj, cv, sl, sc, ct, sa, ss, ll, _, _, _, _, mi, mx, _, _, _⟩
  unfold matcher_Test_g at h
  rw [q_cm hE, q_conj hE, q_sl hE] at h
  cbv
  refine L_keep hE lay_ok Tryz.call22 Tryz.func22 rfl ?_
  intro A1 E1 Q1 hE1 hf1 hQ1; cbv
  refine L_call hE1 hR h (fun _ e => name_Label_w e) rfl rfl fun a1 h => ?_; cbv
  refine L_if hE1 h (fun h => ?_) (fun h => ?_) <;> cbv
  · refine And.left (hQ1 _ _ rfl ?_); cbv
    refine L_if hE h (fun h => ?_) (fun h => ?_) <;> cbv
    · exact And.left (hQ _ _ _ rfl rfl (by cases h; subst hR; rfl))
    exact nomatch h
  refine L_rgJ hE1 lay_ok h 2 (fun j1 : Bool => [(13, fB j1)]) (fun j1 => []) (fun j1 h => ?_) (fun j1 h => ?_) <;> cbv
  · refine L_if hE1 h (fun h => ?_) (fun h => ?_) <;> cbv
    · cases h; (cbv; (try simp only [e_rnil hR]); repeat' (first | exact trivial | exact rfl | exact Or.inr trivial | apply And.intro))
    cases h; (cbv; (try simp only [e_rnil hR]); repeat' (first | exact trivial | exact rfl | exact Or.inr trivial | apply And.intro))
  refine L_if hE1 h (fun h => ?_) (fun h => ?_) <;> cbv
  · refine And.left (hQ1 _ _ rfl ?_); cbv
    refine L_if hE h (fun h => ?_) (fun h => ?_) <;> cbv
    · exact And.left (hQ _ _ _ rfl rfl (by cases h; subst hR; rfl))
    exact nomatch h
  refine L_rgJ hE1 lay_ok h 2 (fun j2 : Bool => [(5, fB j2)]) (fun j2 => []) (fun j2 h => ?_) (fun j2 h => ?_) <;> cbv
  · refine L_if hE1 h (fun h => ?_) (fun h => ?_) <;> cbv
    · cases h; (cbv; (try simp only [e_rnil hR]); repeat' (first | exact trivial | exact rfl | exact Or.inr trivial | apply And.intro))
    cases h; (cbv; (try simp only [e_rnil hR]); repeat' (first | exact trivial | exact rfl | exact Or.inr trivial | apply And.intro))
  refine L_rgJ hE1 lay_ok h 2 (fun j3 : Bool => [(37, fB j3)]) (fun j3 => []) (fun j3 h => ?_) (fun j3 h => ?_) <;> cbv
  · refine L_if hE1 h (fun h => ?_) (fun h => ?_) <;> cbv
    · cases h; (cbv; (try simp only [e_rnil hR]); repeat' (first | exact trivial | exact rfl | exact Or.inr trivial | apply And.intro))
    cases h; (cbv; (try simp only [e_rnil hR]); repeat' (first | exact trivial | exact rfl | exact Or.inr trivial | apply And.intro))
  refine L_if hE1 h (fun h => ?_) (fun h => ?_) <;> cbv
  · refine L_if hE1 h (fun h => ?_) (fun h => ?_) <;> cbv
    · refine And.left (hQ1 _ _ rfl ?_); cbv
      refine L_if hE h (fun h => ?_) (fun h => ?_) <;> cbv
      · exact And.left (hQ _ _ _ rfl rfl (by cases h; subst hR; rfl))
      exact nomatch h
    refine r_ifc hE1 Tryz.underlying78 rfl ?_; cbv
    refine And.left (hQ1 _ _ rfl ?_); cbv
    refine L_if hE h (fun h => ?_) (fun h => ?_) <;> cbv
    · exact nomatch h
    refine r_as_yes hE (by kernel_rfl) ?_; cbv
    refine L_rg hE lay_ok ?_; cbv
    refine L_t hE ?_; cbv
    refine r_inv (f := 147) hE (fun w u c => by kernel_rfl) ?_
    refine L_call hE hR h (fun _ e => matcher_same_ask_w e) rfl rfl fun a2 h => ?_; cbv
    exact And.left (hQ _ _ _ rfl rfl (by cases h; subst hR; rfl))
  refine L_call hE1 hR h (fun _ e => regex_Parse_w e) rfl rfl fun a3 h => ?_; cbv
  refine L_if hE1 h (fun h => ?_) (fun h => ?_) <;> cbv
  · refine L_whole hE1 lay_ok (by kernel_rfl) (by kernel_rfl) ?_; cbv
    refine And.left (hQ1 _ _ rfl ?_); cbv
    refine L_if hE h (fun h => ?_) (fun h => ?_) <;> cbv
    · exact And.left (hQ _ _ _ rfl rfl (by cases h; subst hR; rfl))
    exact nomatch h
  refine r_ifc hE1 Tryz.underlying80 rfl ?_; cbv
  refine And.left (hQ1 _ _ rfl ?_); cbv
  refine L_if hE h (fun h => ?_) (fun h => ?_) <;> cbv
  · exact nomatch h
  refine r_as_yes hE (by kernel_rfl) ?_; cbv
  refine L_rg hE lay_ok ?_; cbv
  refine L_t hE ?_; cbv
  refine r_inv (f := 148) hE (fun w u c => by kernel_rfl) ?_
  refine L_call hE hR h (fun _ e => matcher_like_ask_w e) (by subst hR; rfl) rfl fun a4 h => ?_; cbv
  exact And.left (hQ _ _ _ rfl rfl (by cases h; subst hR; rfl))
theorem labels_Get_w {N : Nat} {p0 : List GLabel} {p1 : ByteArray} {r : ByteArray} (h : labels_Get_g N p0 p1 = some r) : FunS Tryz.prog 25 [.t (.slc (rw _ cLabel p0)), fS p1] (labels_Get_s rw) r := by
  refine fun_w lay_ok Tryz.call25 Tryz.func25 rfl ?_
  intro A W E Q R hE hR hf hQ; rcases W with ⟨ar, cm, conj, cv, sl, sc, ct, sa, ss, ll, _, _, _, _, mi, mx, _, _, _⟩
  rw [← hR]
  unfold labels_Get_g at h
  skip
  cbv
  refine L_keep hE lay_ok Tryz.call51 Tryz.func51 rfl ?_
  intro A1 E1 Q1 hE1 hf1 hQ1; cbv
  refine L_for hE1 lay_ok 1 (fun g : Int × Nat => [(4, fI .i64 0), (8, fI .i64 g.1)]) (fun g => []) (fun g => labels_Get_l2 p0 p1 g.2 g.1 = some r) (fun g => g.2) (_, N) h ?_ ?_
  · (cbv; (try simp only [e_rnil hR]); repeat' (first | exact trivial | exact rfl | exact Or.inr trivial | apply And.intro))
  rintro ⟨v1, m2⟩ h Q2 hN2 hT2 hX2
  have h : labels_Get_l2 p0 p1 m2 v1 = some r := h
  cases m2 with
  | zero => exact nomatch (show (none : Option _) = some _ from h)
  | succ m2 =>
  rw [labels_Get_l2] at h
  rw [q_ar hE, q_cm hE, q_sc hE, q_ll hE, ← hR] at h
  cbv
  refine L_if hE1 h (fun h => ?_) (fun h => ?_) <;> cbv
  · refine L_row hE1 hR h fun r2 h => ?_; cbv
    refine L_keep hE1 lay_ok Tryz.call52 Tryz.func52 rfl ?_
    intro A3 E3 Q3 hE3 hf3 hQ3; cbv
    refine And.left (hQ3 _ _ rfl ?_); cbv
    refine L_if hE1 h (fun h => ?_) (fun h => ?_) <;> cbv
    · refine hT2 _ ?_
      refine And.left (hQ1 _ _ rfl ?_); cbv
      refine L_if hE h (fun h => ?_) (fun h => ?_) <;> cbv
      · exact And.left (hQ _ _ _ rfl rfl (by cases h; subst hR; rfl))
      refine L_row hE hR h fun r3 h => ?_; cbv
      exact And.left (hQ _ _ _ rfl rfl (by cases h; subst hR; rfl))
    refine hN2 _ (_, m2) [] h (Nat.lt_succ_self _) trivial ?_; (cbv; (try simp only [e_rnil hR]); repeat' (first | exact trivial | exact rfl | exact Or.inr trivial | apply And.intro))
  refine hX2 _ _ ?_; cbv
  refine And.left (hQ1 _ _ rfl ?_); cbv
  refine L_if hE h (fun h => ?_) (fun h => ?_) <;> cbv
  · exact And.left (hQ _ _ _ rfl rfl (by cases h; subst hR; rfl))
  exact nomatch h
theorem matcher_Holds_w {N : Nat} {p0 : GMatcher} {p1 : List GLabel} {r : Bool} (h : matcher_Holds_g N p0 p1 = some r) : FunS Tryz.prog 12 [.agg [fS p0.Name, fI .i64 p0.Op, fS p0.Value], .t (.slc (rw _ cLabel p1))] (matcher_Holds_s rw) r := by
  refine fun_w lay_ok Tryz.call12 Tryz.func12 rfl ?_
  intro A W E Q R hE hR hf hQ; rcases W with ⟨ar, cm, conj, cv, sl, sc, ct, sa, ss, ll, _, _, _, _, mi, mx, _, _, _⟩
  rw [← hR]
  unfold matcher_Holds_g at h
  skip
  cbv
  refine L_whole hE lay_ok (by kernel_rfl) (by kernel_rfl) ?_; cbv
  refine L_pcall hE hR h (fun _ e => labels_Get_w e) (by subst hR; rfl) rfl fun a1 h => ?_; cbv
  refine L_pcall hE hR h (fun _ e => matcher_Test_w e) rfl rfl fun a2 h => ?_; cbv
  exact And.left (hQ _ _ _ rfl rfl (by cases h; subst hR; rfl))
theorem matcher_Right_w {N : Nat} {p0 : GMatcher} {r : Int} (h : matcher_Right_g N p0 = some r) : FunS Tryz.prog 8 [.agg [fS p0.Name, fI .i64 p0.Op, fS p0.Value]] (matcher_Right_s rw) r := by
  refine fun_w lay_ok Tryz.call8 Tryz.func8 rfl ?_
  intro A W E Q R hE hR hf hQ; rcases W with ⟨ar, cm, conj, cv, sl, sc, ct, sa, ss, ll, _, _, _, _, mi, mx, _, _, _⟩
  unfold matcher_Right_g at h
  rw [q_cm hE, q_sl hE] at h
  cbv
  refine L_keep hE lay_ok Tryz.call22 Tryz.func22 rfl ?_
  intro A1 E1 Q1 hE1 hf1 hQ1; cbv
  refine L_call hE1 hR h (fun _ e => name_Label_w e) rfl rfl fun a1 h => ?_; cbv
  refine L_if hE1 h (fun h => ?_) (fun h => ?_) <;> cbv
  · refine And.left (hQ1 _ _ rfl ?_); cbv
    exact And.left (hQ _ _ _ rfl rfl (by cases h; subst hR; rfl))
  refine L_rgJ hE1 lay_ok h 2 (fun j1 : Bool => [(13, fB j1)]) (fun j1 => []) (fun j1 h => ?_) (fun j1 h => ?_) <;> cbv
  · refine L_if hE1 h (fun h => ?_) (fun h => ?_) <;> cbv
    · cases h; (cbv; (try simp only [e_rnil hR]); repeat' (first | exact trivial | exact rfl | exact Or.inr trivial | apply And.intro))
    cases h; (cbv; (try simp only [e_rnil hR]); repeat' (first | exact trivial | exact rfl | exact Or.inr trivial | apply And.intro))
  refine L_if hE1 h (fun h => ?_) (fun h => ?_) <;> cbv
  · refine And.left (hQ1 _ _ rfl ?_); cbv
    exact And.left (hQ _ _ _ rfl rfl (by cases h; subst hR; rfl))
  refine L_rgJ hE1 lay_ok h 2 (fun j2 : Bool => [(5, fB j2)]) (fun j2 => []) (fun j2 h => ?_) (fun j2 h => ?_) <;> cbv
  · refine L_if hE1 h (fun h => ?_) (fun h => ?_) <;> cbv
    · cases h; (cbv; (try simp only [e_rnil hR]); repeat' (first | exact trivial | exact rfl | exact Or.inr trivial | apply And.intro))
    cases h; (cbv; (try simp only [e_rnil hR]); repeat' (first | exact trivial | exact rfl | exact Or.inr trivial | apply And.intro))
  refine L_rgJ hE1 lay_ok h 2 (fun j3 : Bool => [(37, fB j3)]) (fun j3 => []) (fun j3 h => ?_) (fun j3 h => ?_) <;> cbv
  · refine L_if hE1 h (fun h => ?_) (fun h => ?_) <;> cbv
    · cases h; (cbv; (try simp only [e_rnil hR]); repeat' (first | exact trivial | exact rfl | exact Or.inr trivial | apply And.intro))
    cases h; (cbv; (try simp only [e_rnil hR]); repeat' (first | exact trivial | exact rfl | exact Or.inr trivial | apply And.intro))
  refine L_if hE1 h (fun h => ?_) (fun h => ?_) <;> cbv
  · refine L_if hE1 h (fun h => ?_) (fun h => ?_) <;> cbv
    · refine And.left (hQ1 _ _ rfl ?_); cbv
      exact And.left (hQ _ _ _ rfl rfl (by cases h; subst hR; rfl))
    refine r_ifc hE1 Tryz.underlying78 rfl ?_; cbv
    refine And.left (hQ1 _ _ rfl ?_); cbv
    exact And.left (hQ _ _ _ rfl rfl (by cases h; subst hR; rfl))
  refine L_call hE1 hR h (fun _ e => regex_Parse_w e) rfl rfl fun a2 h => ?_; cbv
  refine L_if hE1 h (fun h => ?_) (fun h => ?_) <;> cbv
  · refine L_whole hE1 lay_ok (by kernel_rfl) (by kernel_rfl) ?_; cbv
    refine And.left (hQ1 _ _ rfl ?_); cbv
    exact And.left (hQ _ _ _ rfl rfl (by cases h; subst hR; rfl))
  refine r_ifc hE1 Tryz.underlying80 rfl ?_; cbv
  refine And.left (hQ1 _ _ rfl ?_); cbv
  exact And.left (hQ _ _ _ rfl rfl (by cases h; subst hR; rfl))
end Gn
end Go.Proofs.YtampjnpnekekiaaGreatDoor
namespace Go.Proofs.YtampjnpnekekiaaGreatDoor
open Go Go.RowKit
set_option linter.unusedVariables false
set_option linter.unusedSimpArgs false
set_option maxRecDepth 100000
set_option maxHeartbeats 4000000
open Ab Sh
namespace Gn
theorem name_Cut_w {N : Nat} {p0 : ByteArray} {p1 : Int} {r : ByteArray × Int} (h : name_Cut_g N p0 p1 = some r) : FunS Tryz.prog 27 [fS p0, fI .i64 p1] (name_Cut_s rw) r := by
  refine fun_w lay_ok Tryz.call27 Tryz.func27 rfl ?_
  intro A W E Q R hE hR hf hQ; rcases W with ⟨ar, cm, conj, cv, sl, sc, ct, sa, ss, ll, _, _, _, _, mi, mx, _, _, _⟩
  unfold name_Cut_g at h
  rw [q_cm hE, q_sl hE] at h
  cbv
  refine L_rgJ hE lay_ok h 0 (fun j1 : Bool => [(16, fB j1)]) (fun j1 => []) (fun j1 h => ?_) (fun j1 h => ?_) <;> cbv
  · refine L_if hE h (fun h => ?_) (fun h => ?_) <;> cbv
    · cases h; (cbv; (try simp only [e_rnil hR]); repeat' (first | exact trivial | exact rfl | exact Or.inr trivial | apply And.intro))
    cases h; (cbv; (try simp only [e_rnil hR]); repeat' (first | exact trivial | exact rfl | exact Or.inr trivial | apply And.intro))
  refine L_if hE h (fun h => ?_) (fun h => ?_) <;> cbv
  · exact And.left (hQ _ _ _ rfl rfl (by cases h; subst hR; rfl))
  refine L_ssin hE h fun h => ?_
  refine L_for hE lay_ok 1 (fun g : Int × Nat => [(4, fS ByteArray.empty), (5, fI .i64 0)]) (fun g => [(0, .iter (ss p0 p1 (sl p0)) g.1)]) (fun g => name_Cut_l1 p0 p1 g.2 g.1 = some r) (fun g => g.2) (_, N) h ?_ ?_
  · (cbv; (try simp only [e_rnil hR]); repeat' (first | exact trivial | exact rfl | exact Or.inr trivial | apply And.intro))
  rintro ⟨v1, m1⟩ h Q1 hN1 hT1 hX1
  have h : name_Cut_l1 p0 p1 m1 v1 = some r := h
  cases m1 with
  | zero => exact nomatch (show (none : Option _) = some _ from h)
  | succ m1 =>
  rw [name_Cut_l1] at h
  rw [q_ar hE, q_cm hE, q_sl hE, q_ss hE] at h
  cbv
  refine L_nx hE h (fun q2 c3 h => ?_) (fun h => ?_) <;> cbv
  · refine L_t hE ?_; cbv
    refine L_rgJ hE lay_ok h 1 (fun j4 : Bool => [(37, fB j4)]) (fun j4 => []) (fun j4 h => ?_) (fun j4 h => ?_) <;> cbv
    · refine L_call hE hR h (fun _ e => name_letter_w e) rfl rfl fun a4 h => ?_; cbv
      refine L_if hE h (fun h => ?_) (fun h => ?_) <;> cbv
      · refine L_if hE h (fun h => ?_) (fun h => ?_) <;> cbv
        · cases h; (cbv; (try simp only [e_rnil hR]); repeat' (first | exact trivial | exact rfl | exact Or.inr trivial | apply And.intro))
        refine L_call hE hR h (fun _ e => name_digit_w e) rfl rfl fun a5 h => ?_; cbv
        cases h; (cbv; (try simp only [e_rnil hR]); repeat' (first | exact trivial | exact rfl | exact Or.inr trivial | apply And.intro))
      cases h; (cbv; (try simp only [e_rnil hR]); repeat' (first | exact trivial | exact rfl | exact Or.inr trivial | apply And.intro))
    refine L_if hE h (fun h => ?_) (fun h => ?_) <;> cbv
    · refine L_ssin hE h fun h => ?_
      refine hT1 _ ?_
      exact And.left (hQ _ _ _ rfl rfl (by cases h; subst hR; rfl))
    refine hN1 _ (_, m1) [] h (Nat.lt_succ_self _) trivial ?_; (cbv; (try simp only [e_rnil hR]); repeat' (first | exact trivial | exact rfl | exact Or.inr trivial | apply And.intro))
  refine L_f hE ?_; cbv
  refine hX1 _ _ ?_; cbv
  exact And.left (hQ _ _ _ rfl rfl (by cases h; subst hR; rfl))
theorem matcher_sign_w {p0 : Int} {r : ByteArray} (h : matcher_sign_g p0 = some r) : FunS Tryz.prog 30 [fI .i64 p0] (matcher_sign_s rw) r := by
  refine fun_w lay_ok Tryz.call30 Tryz.func30 rfl ?_
  intro A W E Q R hE hR hf hQ; rcases W with ⟨ar, cm, conj, cv, sl, sc, ct, sa, ss, ll, _, _, _, _, mi, mx, _, _, _⟩
  unfold matcher_sign_g at h
  rw [q_cm hE] at h
  cbv
  refine L_if hE h (fun h => ?_) (fun h => ?_) <;> cbv
  · exact And.left (hQ _ _ _ rfl rfl (by cases h; subst hR; rfl))
  refine L_if hE h (fun h => ?_) (fun h => ?_) <;> cbv
  · exact And.left (hQ _ _ _ rfl rfl (by cases h; subst hR; rfl))
  refine L_if hE h (fun h => ?_) (fun h => ?_) <;> cbv
  · exact And.left (hQ _ _ _ rfl rfl (by cases h; subst hR; rfl))
  refine L_if hE h (fun h => ?_) (fun h => ?_) <;> cbv
  · exact And.left (hQ _ _ _ rfl rfl (by cases h; subst hR; rfl))
  exact And.left (hQ _ _ _ rfl rfl (by cases h; subst hR; rfl))
theorem internal_stringslite_HasPrefix_w {p0 : ByteArray} {p1 : ByteArray} {r : Bool} (h : internal_stringslite_HasPrefix_g p0 p1 = some r) : FunS Tryz.prog 81 [fS p0, fS p1] (internal_stringslite_HasPrefix_s rw) r := by
  refine fun_w lay_ok Tryz.call81 Tryz.func81 rfl ?_
  intro A W E Q R hE hR hf hQ; rcases W with ⟨ar, cm, conj, cv, sl, sc, ct, sa, ss, ll, _, _, _, _, mi, mx, _, _, _⟩
  unfold internal_stringslite_HasPrefix_g at h
  rw [q_cm hE, q_sl hE, q_sc hE, q_ss hE] at h
  cbv
  refine L_rgJ hE lay_ok h 0 (fun j1 : Bool => [(4, fB j1)]) (fun j1 => []) (fun j1 h => ?_) (fun j1 h => ?_) <;> cbv
  · refine L_if hE h (fun h => ?_) (fun h => ?_) <;> cbv
    · refine L_ssin hE h fun h => ?_
      cases h; (cbv; (try simp only [e_rnil hR]); repeat' (first | exact trivial | exact rfl | exact Or.inr trivial | apply And.intro))
    cases h; (cbv; (try simp only [e_rnil hR]); repeat' (first | exact trivial | exact rfl | exact Or.inr trivial | apply And.intro))
  exact And.left (hQ _ _ _ rfl rfl (by cases h; subst hR; rfl))
theorem strings_HasPrefix_w {p0 : ByteArray} {p1 : ByteArray} {r : Bool} (h : strings_HasPrefix_g p0 p1 = some r) : FunS Tryz.prog 55 [fS p0, fS p1] (strings_HasPrefix_s rw) r := by
  refine fun_w lay_ok Tryz.call55 Tryz.func55 rfl ?_
  intro A W E Q R hE hR hf hQ; rcases W with ⟨ar, cm, conj, cv, sl, sc, ct, sa, ss, ll, _, _, _, _, mi, mx, _, _, _⟩
  unfold strings_HasPrefix_g at h
  skip
  cbv
  refine L_call hE hR h (fun _ e => internal_stringslite_HasPrefix_w e) rfl rfl fun a1 h => ?_; cbv
  exact And.left (hQ _ _ _ rfl rfl (by cases h; subst hR; rfl))
theorem matcher_op_w {N : Nat} {p0 : ByteArray} {p1 : Int} {r : Int × GFault} (h : matcher_op_g N p0 p1 = some r) : FunS Tryz.prog 29 [fS p0, fI .i64 p1] (matcher_op_s rw) r := by
  refine fun_w lay_ok Tryz.call29 Tryz.func29 rfl ?_
  intro A W E Q R hE hR hf hQ; rcases W with ⟨ar, cm, conj, cv, sl, sc, ct, sa, ss, ll, _, _, _, _, mi, mx, _, _, _⟩
  unfold matcher_op_g at h
  rw [q_sl hE] at h
  cbv
  refine L_ssin hE h fun h => ?_
  refine L_for hE lay_ok 1 (fun g : Int × Nat => [(4, fI .i64 0), (13, fI .i64 g.1)]) (fun g => []) (fun g => matcher_op_l1 p0 p1 g.2 g.1 = some r) (fun g => g.2) (_, N) h ?_ ?_
  · (cbv; (try simp only [e_rnil hR]); repeat' (first | exact trivial | exact rfl | exact Or.inr trivial | apply And.intro))
  rintro ⟨v1, m1⟩ h Q1 hN1 hT1 hX1
  have h : matcher_op_l1 p0 p1 m1 v1 = some r := h
  cases m1 with
  | zero => exact nomatch (show (none : Option _) = some _ from h)
  | succ m1 =>
  rw [matcher_op_l1] at h
  rw [q_ar hE, q_cm hE, q_sl hE, q_sc hE, q_ss hE] at h
  cbv
  refine L_if hE h (fun h => ?_) (fun h => ?_) <;> cbv
  · refine L_cell hE (m := (fI .i64)) h rfl fun r2 h => ?_; cbv
    refine L_call hE hR h (fun _ e => matcher_sign_w e) rfl rfl fun a3 h => ?_; cbv
    refine L_call hE hR h (fun _ e => strings_HasPrefix_w e) rfl rfl fun a4 h => ?_; cbv
    refine L_if hE h (fun h => ?_) (fun h => ?_) <;> cbv
    · refine hT1 _ ?_
      exact And.left (hQ _ _ _ rfl rfl (by cases h; subst hR; rfl))
    refine hN1 _ (_, m1) [] h (Nat.lt_succ_self _) trivial ?_; (cbv; (try simp only [e_rnil hR]); repeat' (first | exact trivial | exact rfl | exact Or.inr trivial | apply And.intro))
  refine hX1 _ _ ?_; cbv
  refine L_if hE h (fun h => ?_) (fun h => ?_) <;> cbv
  · exact And.left (hQ _ _ _ rfl rfl (by cases h; subst hR; rfl))
  refine L_if hE h (fun h => ?_) (fun h => ?_) <;> cbv
  · exact And.left (hQ _ _ _ rfl rfl (by cases h; subst hR; rfl))
  exact And.left (hQ _ _ _ rfl rfl (by cases h; subst hR; rfl))
end Gn
end Go.Proofs.YtampjnpnekekiaaGreatDoor
namespace Go.Proofs.YtampjnpnekekiaaGreatDoor
open Go Go.RowKit
set_option linter.unusedVariables false
set_option linter.unusedSimpArgs false
set_option maxRecDepth 100000
set_option maxHeartbeats 4000000
open Ab Sh
namespace Gn
theorem quote_escape_w {N : Nat} {p0 : ByteArray} {r : Int × Int × Int} (h : quote_escape_g N p0 = some r) : FunS Tryz.prog 57 [fS p0] (quote_escape_s rw) r := by
  refine fun_w lay_ok Tryz.call57 Tryz.func57 rfl ?_
  intro A W E Q R hE hR hf hQ; rcases W with ⟨ar, cm, conj, cv, sl, sc, ct, sa, ss, ll, _, _, _, _, mi, mx, _, _, _⟩
  unfold quote_escape_g at h
  rw [q_cm hE, q_sl hE, q_sa hE] at h
  cbv
  refine L_if hE h (fun h => ?_) (fun h => ?_) <;> cbv
  · exact And.left (hQ _ _ _ rfl rfl (by cases h; subst hR; rfl))
  refine L_rgJ hE lay_ok h 0 (fun j1 : Bool => [(12, fB j1)]) (fun j1 => []) (fun j1 h => ?_) (fun j1 h => ?_) <;> cbv
  · refine L_sin hE h fun h => ?_
    refine L_if hE h (fun h => ?_) (fun h => ?_) <;> cbv
    · cases h; (cbv; (try simp only [e_rnil hR]); repeat' (first | exact trivial | exact rfl | exact Or.inr trivial | apply And.intro))
    refine L_sin hE h fun h => ?_
    cases h; (cbv; (try simp only [e_rnil hR]); repeat' (first | exact trivial | exact rfl | exact Or.inr trivial | apply And.intro))
  refine L_if hE h (fun h => ?_) (fun h => ?_) <;> cbv
  · refine L_sin hE h fun h => ?_
    exact And.left (hQ _ _ _ rfl rfl (by cases h; subst hR; rfl))
  refine L_sin hE h fun h => ?_
  refine L_if hE h (fun h => ?_) (fun h => ?_) <;> cbv
  · exact And.left (hQ _ _ _ rfl rfl (by cases h; subst hR; rfl))
  refine L_for hE lay_ok 0 (fun g : Int × Int × Nat => [(2, fI .u8 0), (3, fI .i64 0), (4, fI .i64 0), (5, fI .i64 g.1), (6, fI .i64 g.2.1)]) (fun g => []) (fun g => quote_escape_l1 p0 g.2.2 g.1 g.2.1 = some r) (fun g => g.2.2) (_, _, N) h ?_ ?_
  · (cbv; (try simp only [e_rnil hR]); repeat' (first | exact trivial | exact rfl | exact Or.inr trivial | apply And.intro))
  rintro ⟨v1, v2, m1⟩ h Q1 hN1 hT1 hX1
  have h : quote_escape_l1 p0 m1 v1 v2 = some r := h
  cases m1 with
  | zero => exact nomatch (show (none : Option _) = some _ from h)
  | succ m1 =>
  rw [quote_escape_l1] at h
  rw [q_ar hE, q_cm hE, q_cv hE, q_sl hE, q_sa hE] at h
  cbv
  refine L_if hE h (fun h => ?_) (fun h => ?_) <;> cbv
  · refine L_if hE h (fun h => ?_) (fun h => ?_) <;> cbv
    · refine hT1 _ ?_
      exact And.left (hQ _ _ _ rfl rfl (by cases h; subst hR; rfl))
    refine L_sin hE h fun h => ?_
    refine L_call hE hR h (fun _ e => strings_IndexByte_w e) rfl rfl fun a3 h => ?_; cbv
    refine L_if hE h (fun h => ?_) (fun h => ?_) <;> cbv
    · refine hT1 _ ?_
      exact And.left (hQ _ _ _ rfl rfl (by cases h; subst hR; rfl))
    refine hN1 _ (_, _, m1) [] h (Nat.lt_succ_self _) trivial ?_; (cbv; (try simp only [e_rnil hR]); repeat' (first | exact trivial | exact rfl | exact Or.inr trivial | apply And.intro))
  refine hX1 _ _ ?_; cbv
  exact And.left (hQ _ _ _ rfl rfl (by cases h; subst hR; rfl))
theorem quote_plain_w {p0 : Int} {p1 : Int} {r : Bool} (h : quote_plain_g p0 p1 = some r) : FunS Tryz.prog 58 [fI .i32 p0, fI .i64 p1] (quote_plain_s rw) r := by
  refine fun_w lay_ok Tryz.call58 Tryz.func58 rfl ?_
  intro A W E Q R hE hR hf hQ; rcases W with ⟨ar, cm, conj, cv, sl, sc, ct, sa, ss, ll, _, _, _, _, mi, mx, _, _, _⟩
  unfold quote_plain_g at h
  rw [q_cm hE] at h
  cbv
  refine L_rgJ hE lay_ok h 0 (fun j1 : Bool => [(4, fB j1)]) (fun j1 => []) (fun j1 h => ?_) (fun j1 h => ?_) <;> cbv
  · refine L_if hE h (fun h => ?_) (fun h => ?_) <;> cbv
    · refine L_if hE h (fun h => ?_) (fun h => ?_) <;> cbv
      · refine L_if hE h (fun h => ?_) (fun h => ?_) <;> cbv
        · cases h; (cbv; (try simp only [e_rnil hR]); repeat' (first | exact trivial | exact rfl | exact Or.inr trivial | apply And.intro))
        cases h; (cbv; (try simp only [e_rnil hR]); repeat' (first | exact trivial | exact rfl | exact Or.inr trivial | apply And.intro))
      cases h; (cbv; (try simp only [e_rnil hR]); repeat' (first | exact trivial | exact rfl | exact Or.inr trivial | apply And.intro))
    cases h; (cbv; (try simp only [e_rnil hR]); repeat' (first | exact trivial | exact rfl | exact Or.inr trivial | apply And.intro))
  exact And.left (hQ _ _ _ rfl rfl (by cases h; subst hR; rfl))
theorem quote_Read_w {N : Nat} {p0 : ByteArray} {p1 : Int} {r : ByteArray × Int × GFault} (h : quote_Read_g N p0 p1 = some r) : FunS Tryz.prog 31 [fS p0, fI .i64 p1] (quote_Read_s rw) r := by
  refine fun_w lay_ok Tryz.call31 Tryz.func31 rfl ?_
  intro A W E Q R hE hR hf hQ; rcases W with ⟨ar, cm, conj, cv, sl, sc, ct, sa, ss, ll, _, _, _, _, mi, mx, _, _, _⟩
  unfold quote_Read_g at h
  rw [q_ar hE, q_cm hE, q_sl hE, q_sa hE] at h
  cbv
  refine L_rgJ hE lay_ok h 1 (fun j1 : Bool => [(14, fB j1)]) (fun j1 => []) (fun j1 h => ?_) (fun j1 h => ?_) <;> cbv
  · refine L_if hE h (fun h => ?_) (fun h => ?_) <;> cbv
    · cases h; (cbv; (try simp only [e_rnil hR]); repeat' (first | exact trivial | exact rfl | exact Or.inr trivial | apply And.intro))
    cases h; (cbv; (try simp only [e_rnil hR]); repeat' (first | exact trivial | exact rfl | exact Or.inr trivial | apply And.intro))
  refine L_if hE h (fun h => ?_) (fun h => ?_) <;> cbv
  · exact And.left (hQ _ _ _ rfl rfl (by cases h; subst hR; rfl))
  refine L_if hE h (fun h => ?_) (fun h => ?_) <;> cbv
  · exact And.left (hQ _ _ _ rfl rfl (by cases h; subst hR; rfl))
  refine L_sin hE h fun h => ?_
  refine L_if hE h (fun h => ?_) (fun h => ?_) <;> cbv
  · exact And.left (hQ _ _ _ rfl rfl (by cases h; subst hR; rfl))
  refine L_for hE lay_ok 1 (fun g : Int × (List Int) × Nat => [(4, fS ByteArray.empty), (5, fI .i64 0), (7, .lst 1), (8, fI .i64 g.1)]) (fun g => [(1, .list 5 1 (R _ (cI .u8) g.2.1))]) (fun g => quote_Read_l1 N p0 g.2.2 g.1 g.2.1 = some r) (fun g => g.2.2) (_, _, N) h ?_ ?_
  · (cbv; (try simp only [e_rnil hR]); repeat' (first | exact trivial | exact rfl | exact Or.inr trivial | apply And.intro))
  rintro ⟨v1, v2, m1⟩ h Q1 hN1 hT1 hX1
  have h : quote_Read_l1 N p0 m1 v1 v2 = some r := h
  cases m1 with
  | zero => exact nomatch (show (none : Option _) = some _ from h)
  | succ m1 =>
  rw [quote_Read_l1] at h
  rw [q_ar hE, q_cm hE, q_sl hE, q_ss hE] at h
  cbv
  refine L_if hE h (fun h => ?_) (fun h => ?_) <;> cbv
  · refine L_ssin hE h fun h => ?_
    refine L_call hE hR h (fun _ e => utf8_Decode_w e) rfl rfl fun a3 h => ?_; cbv
    refine L_if hE h (fun h => ?_) (fun h => ?_) <;> cbv
    · refine L_bok hE hR h fun s4 e h => ?_; cbv at e; rw [e]; clear e
      refine hT1 _ ?_
      exact And.left (hQ _ _ _ rfl rfl (by cases h; subst hR; rfl))
    refine L_cd hE lay_ok ?_; cbv
    refine L_if hE h (fun h => ?_) (fun h => ?_) <;> cbv
    · refine L_ssin hE h fun h => ?_
      refine L_call hE hR h (fun _ e => quote_escape_w e) rfl rfl fun a5 h => ?_; cbv
      refine L_if hE h (fun h => ?_) (fun h => ?_) <;> cbv
      · refine hT1 _ ?_
        exact And.left (hQ _ _ _ rfl rfl (by cases h; subst hR; rfl))
      refine L_if hE h (fun h => ?_) (fun h => ?_) <;> cbv
      · refine hT1 _ ?_
        exact And.left (hQ _ _ _ rfl rfl (by cases h; subst hR; rfl))
      refine L_appL hE hR h rfl (hf _) (fun _ => rfl) (by decide) fun l6 e h => ?_; cbv at e; rw [e]; clear e
      refine hN1 _ (_, _, m1) [] h (Nat.lt_succ_self _) trivial ?_; (cbv; (try simp only [e_rnil hR]); repeat' (first | exact trivial | exact rfl | exact Or.inr trivial | apply And.intro))
    refine L_call hE hR h (fun _ e => quote_plain_w e) rfl rfl fun a7 h => ?_; cbv
    refine L_if hE h (fun h => ?_) (fun h => ?_) <;> cbv
    · refine hT1 _ ?_
      exact And.left (hQ _ _ _ rfl rfl (by cases h; subst hR; rfl))
    refine L_ssin hE h fun h => ?_
    refine L_appS hE hR h (hf _) (by decide) fun l8 e h => ?_; cbv at e; rw [e]; clear e
    refine hN1 _ (_, _, m1) [] h (Nat.lt_succ_self _) trivial ?_; (cbv; (try simp only [e_rnil hR]); repeat' (first | exact trivial | exact rfl | exact Or.inr trivial | apply And.intro))
  refine hX1 _ _ ?_; cbv
  exact And.left (hQ _ _ _ rfl rfl (by cases h; subst hR; rfl))
theorem matcher_Take_w {N : Nat} {p0 : ByteArray} {p1 : Int} {r : GMatcher × Int × GFault} (h : matcher_Take_g N p0 p1 = some r) : FunS Tryz.prog 14 [fS p0, fI .i64 p1] (matcher_Take_s rw) r := by
  refine fun_w lay_ok Tryz.call14 Tryz.func14 rfl ?_
  intro A W E Q R hE hR hf hQ; rcases W with ⟨ar, cm, conj, cv, sl, sc, ct, sa, ss, ll, _, _, _, _, mi, mx, _, _, _⟩
  unfold matcher_Take_g at h
  rw [q_ar hE, q_cm hE, q_sl hE] at h
  cbv
  refine L_rgJ hE lay_ok h 3 (fun j1 : Bool => [(23, fB j1)]) (fun j1 => []) (fun j1 h => ?_) (fun j1 h => ?_) <;> cbv
  · refine L_if hE h (fun h => ?_) (fun h => ?_) <;> cbv
    · cases h; (cbv; (try simp only [e_rnil hR]); repeat' (first | exact trivial | exact rfl | exact Or.inr trivial | apply And.intro))
    cases h; (cbv; (try simp only [e_rnil hR]); repeat' (first | exact trivial | exact rfl | exact Or.inr trivial | apply And.intro))
  refine L_if hE h (fun h => ?_) (fun h => ?_) <;> cbv
  · exact And.left (hQ _ _ _ rfl rfl (by cases h; subst hR; rfl))
  refine L_if hE h (fun h => ?_) (fun h => ?_) <;> cbv
  · exact And.left (hQ _ _ _ rfl rfl (by cases h; subst hR; rfl))
  refine L_call hE hR h (fun _ e => name_Cut_w e) rfl rfl fun a1 h => ?_; cbv
  refine L_call hE hR h (fun _ e => name_Label_w e) rfl rfl fun a2 h => ?_; cbv
  refine L_if hE h (fun h => ?_) (fun h => ?_) <;> cbv
  · exact And.left (hQ _ _ _ rfl rfl (by cases h; subst hR; rfl))
  refine L_call hE hR h (fun _ e => matcher_op_w e) rfl rfl fun a3 h => ?_; cbv
  refine L_if hE h (fun h => ?_) (fun h => ?_) <;> cbv
  · refine L_ord hE lay_ok (by kernel_rfl) (.two 0 1 (.two 1 2 (.one 2 (.one 3 (.one 4 .done))) (.two 1 3 (.one 3 (.one 4 .done)) (.one 1 (.one 4 .done)))) (.one 0 (.one 2 (.one 3 (.one 4 .done))))) (by kernel_rfl) (by decide) ?_; cbv; repeat' apply And.intro
    all_goals (exact And.left (hQ _ _ _ rfl rfl (by cases h; subst hR; rfl)))
  refine L_call hE hR h (fun _ e => matcher_sign_w e) rfl rfl fun a4 h => ?_; cbv
  refine L_call hE hR h (fun _ e => quote_Read_w e) rfl rfl fun a5 h => ?_; cbv
  refine L_if hE h (fun h => ?_) (fun h => ?_) <;> cbv
  · refine L_ord hE lay_ok (by kernel_rfl) (.two 0 1 (.two 1 2 (.one 2 (.one 3 (.one 4 .done))) (.two 1 3 (.one 3 (.one 4 .done)) (.one 1 (.one 4 .done)))) (.one 0 (.one 2 (.one 3 (.one 4 .done))))) (by kernel_rfl) (by decide) ?_; cbv; repeat' apply And.intro
    all_goals (exact And.left (hQ _ _ _ rfl rfl (by cases h; subst hR; rfl)))
  refine L_call hE hR h (fun _ e => matcher_Right_w e) rfl rfl fun a6 h => ?_; cbv
  refine L_if hE h (fun h => ?_) (fun h => ?_) <;> cbv
  · exact And.left (hQ _ _ _ rfl rfl (by cases h; subst hR; rfl))
  exact And.left (hQ _ _ _ rfl rfl (by cases h; subst hR; rfl))
theorem quote_Unit_w {p0 : ByteArray} {p1 : Int} {r : Int} (h : quote_Unit_g p0 p1 = some r) : FunS Tryz.prog 65 [fS p0, fI .i64 p1] (quote_Unit_s rw) r := by
  refine fun_w lay_ok Tryz.call65 Tryz.func65 rfl ?_
  intro A W E Q R hE hR hf hQ; rcases W with ⟨ar, cm, conj, cv, sl, sc, ct, sa, ss, ll, _, _, _, _, mi, mx, _, _, _⟩
  unfold quote_Unit_g at h
  rw [q_cm hE, q_sl hE, q_ss hE] at h
  cbv
  refine L_rgJ hE lay_ok h 0 (fun j1 : Bool => [(14, fB j1)]) (fun j1 => []) (fun j1 h => ?_) (fun j1 h => ?_) <;> cbv
  · refine L_if hE h (fun h => ?_) (fun h => ?_) <;> cbv
    · cases h; (cbv; (try simp only [e_rnil hR]); repeat' (first | exact trivial | exact rfl | exact Or.inr trivial | apply And.intro))
    cases h; (cbv; (try simp only [e_rnil hR]); repeat' (first | exact trivial | exact rfl | exact Or.inr trivial | apply And.intro))
  refine L_if hE h (fun h => ?_) (fun h => ?_) <;> cbv
  · exact And.left (hQ _ _ _ rfl rfl (by cases h; subst hR; rfl))
  refine L_ssin hE h fun h => ?_
  refine L_call hE hR h (fun _ e => utf8_Decode_w e) rfl rfl fun a1 h => ?_; cbv
  exact And.left (hQ _ _ _ rfl rfl (by cases h; subst hR; rfl))
end Gn
end Go.Proofs.YtampjnpnekekiaaGreatDoor
