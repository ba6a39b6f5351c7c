/- The bodies do what the plain functions tell. -/
import Derived.Test.YtampjnpnekekiaaGreatDoorK231
import Derived.Test.YtampjnpnekekiaaGreatDoorK240
import Derived.Test.YtampjnpnekekiaaGreatDoorK238
namespace Go.Proofs.YtampjnpnekekiaaGreatDoor
open Go Go.RowKit
set_option linter.unusedVariables false
set_option linter.unusedSimpArgs false
set_option maxRecDepth 100000
set_option maxHeartbeats 4000000
open Ab Sh
namespace Gn
theorem quote_Text_w {N : Nat} {p0 : ByteArray} {r : ByteArray} (h : quote_Text_g N p0 = some r) : FunS Tryz.prog 39 [fS p0] (quote_Text_s rw) r := by
  refine fun_w lay_ok Tryz.call39 Tryz.func39 rfl ?_
  intro A W E Q R hE hR hf hQ; rcases W with ⟨ar, cm, conj, cv, sl, sc, ct, sa, ss, ll, _, _, _, _, mi, mx, _, _, _⟩
  unfold quote_Text_g at h
  skip
  cbv
  refine L_body hE lay_ok Tryz.call64 Tryz.func64 rfl ?_
  intro A1 E1 Q1 hE1 hf1 hQ1; cbv
  refine L_check hE1 rfl (.inl rfl) ?_; cbv
  refine L_nilL hE1 hR h rfl (fun _ => rfl) (by decide) fun l1 e h => ?_; (first | rw [e] | (cbv at e; rw [e])); clear e
  refine And.left (hQ1 _ _ rfl ?_); cbv
  refine L_for hE lay_ok 4 (fun g : (List Int) × Int × Nat => []) (fun g => [(2, .list 5 1 (R _ (cI .u8) g.1)), (3, .iter p0 g.2.1)]) (fun g => quote_Text_l2 p0 g.2.2 g.1 g.2.1 = some r) (fun g => g.2.2) (_, _, N) h ?_ ?_
  · (cbv; (try simp only [e_rnil hR]); repeat' (first | exact trivial | exact rfl | exact Or.inr trivial | apply And.intro))
  rintro ⟨v2, v3, m2⟩ h Q2 hN2 hT2 hX2
  have h : quote_Text_l2 p0 m2 v2 v3 = some r := h
  cases m2 with
  | zero => exact nomatch (show (none : Option _) = some _ from h)
  | succ m2 =>
  rw [quote_Text_l2] at h
  rw [q_ar hE, q_cm hE, q_cv hE, q_sa hE, q_ss hE] at h
  cbv
  refine L_nx hE h (fun q4 c5 h => ?_) (fun h => ?_) <;> cbv
  · refine L_t hE ?_; cbv
    refine L_call hE hR h (fun _ e => quote_Unit_w e) rfl rfl fun a6 h => ?_; cbv
    refine L_rgJ hE lay_ok h 4 (fun j4 : Bool => [(30, fB j4)]) (fun j4 => []) (fun j4 h => ?_) (fun j4 h => ?_) <;> cbv
    · refine L_if hE h (fun h => ?_) (fun h => ?_) <;> cbv
      · cases h; (cbv; (try simp only [e_rnil hR]); repeat' (first | exact trivial | exact rfl | exact Or.inr trivial | apply And.intro))
      cases h; (cbv; (try simp only [e_rnil hR]); repeat' (first | exact trivial | exact rfl | exact Or.inr trivial | apply And.intro))
    refine L_cdJ hE lay_ok h 4 (fun j6 : (List Int) => []) (fun j6 => [(2, .list 5 1 (R _ (cI .u8) j6))]) (fun j6 h => ?_) (fun j6 h => ?_) <;> cbv
    · refine L_if hE h (fun h => ?_) (fun h => ?_) <;> cbv
      · refine L_body hE lay_ok Tryz.call64 Tryz.func64 rfl ?_
        intro A3 E3 Q3 hE3 hf3 hQ3; cbv
        refine L_check hE3 rfl (.inr rfl) ?_; cbv
        refine L_appL hE3 hR h rfl (hf3 _ (.inr ⟨hf _, _, _, _, rfl⟩)) (fun _ => rfl) (by decide) fun l7 e h => ?_; cbv at e; rw [e]; clear e
        refine And.left (hQ3 _ _ rfl ?_); cbv
        refine L_body hE lay_ok Tryz.call66 Tryz.func66 rfl ?_
        intro A4 E4 Q4 hE4 hf4 hQ4; cbv
        refine L_check hE4 rfl (.inr rfl) ?_; cbv
        refine L_body hE4 lay_ok Tryz.call88 Tryz.func88 rfl ?_
        intro A5 E5 Q5 hE5 hf5 hQ5; cbv
        refine L_if hE5 h (fun h => ?_) (fun h => ?_) <;> cbv
        · refine L_appL hE5 hR h rfl (hf5 _ (.inr ⟨hf4 _ (.inr ⟨hf _, _, _, _, rfl⟩), _, _, _, rfl⟩)) (fun _ => rfl) (by decide) fun l8 e h => ?_; cbv at e; rw [e]; clear e
          refine And.left (hQ5 _ _ rfl ?_); cbv
          refine And.left (hQ4 _ _ rfl ?_); cbv
          cases h; (cbv; (try simp only [e_rnil hR]); repeat' (first | exact trivial | exact rfl | exact Or.inr trivial | apply And.intro))
        exact nomatch h
      refine L_call hE hR h (fun _ e => quote_plain_w e) rfl rfl fun a9 h => ?_; cbv
      refine L_cdJ hE lay_ok h 4 (fun j5 : (List Int) => []) (fun j5 => [(2, .list 5 1 (R _ (cI .u8) j5))]) (fun j5 h => ?_) (fun j5 h => ?_) <;> cbv
      · refine L_if hE h (fun h => ?_) (fun h => ?_) <;> cbv
        · refine L_ssin hE h fun h => ?_
          refine L_body hE lay_ok Tryz.call67 Tryz.func67 rfl ?_
          intro A6 E6 Q6 hE6 hf6 hQ6; cbv
          refine L_check hE6 rfl (.inr rfl) ?_; cbv
          refine L_appS hE6 hR h (hf6 _ (.inr ⟨hf _, _, _, _, rfl⟩)) (by decide) fun l10 e h => ?_; cbv at e; rw [e]; clear e
          refine And.left (hQ6 _ _ rfl ?_); cbv
          cases h; (cbv; (try simp only [e_rnil hR]); repeat' (first | exact trivial | exact rfl | exact Or.inr trivial | apply And.intro))
        refine L_body hE lay_ok Tryz.call67 Tryz.func67 rfl ?_
        intro A7 E7 Q7 hE7 hf7 hQ7; cbv
        refine L_check hE7 rfl (.inr rfl) ?_; cbv
        refine L_appS hE7 hR h (hf7 _ (.inr ⟨hf _, _, _, _, rfl⟩)) (by decide) fun l11 e h => ?_; cbv at e; rw [e]; clear e
        refine And.left (hQ7 _ _ rfl ?_); cbv
        refine L_sin hE h fun h => ?_
        refine L_ge0 hE h fun h => ?_
        refine L_sin hE h fun h => ?_
        refine L_body hE lay_ok Tryz.call64 Tryz.func64 rfl ?_
        intro A8 E8 Q8 hE8 hf8 hQ8; cbv
        refine L_check hE8 rfl (.inr rfl) ?_; cbv
        refine L_appL hE8 hR h rfl (hf8 _ (.inr ⟨hf _, _, _, _, rfl⟩)) (fun _ => rfl) (by decide) fun l12 e h => ?_; cbv at e; rw [e]; clear e
        refine And.left (hQ8 _ _ rfl ?_); cbv
        refine L_sin hE h fun h => ?_
        refine L_sin hE h fun h => ?_
        refine L_body hE lay_ok Tryz.call64 Tryz.func64 rfl ?_
        intro A9 E9 Q9 hE9 hf9 hQ9; cbv
        refine L_check hE9 rfl (.inr rfl) ?_; cbv
        refine L_appL hE9 hR h rfl (hf9 _ (.inr ⟨hf _, _, _, _, rfl⟩)) (fun _ => rfl) (by decide) fun l13 e h => ?_; cbv at e; rw [e]; clear e
        refine And.left (hQ9 _ _ rfl ?_); cbv
        cases h; (cbv; (try simp only [e_rnil hR]); repeat' (first | exact trivial | exact rfl | exact Or.inr trivial | apply And.intro))
      cases h; (cbv; (try simp only [e_rnil hR]); repeat' (first | exact trivial | exact rfl | exact Or.inr trivial | apply And.intro))
    refine hN2 _ (_, _, m2) [] h (Nat.lt_succ_self _) trivial ?_; (cbv; (try simp only [e_rnil hR]); repeat' (first | exact trivial | exact rfl | exact Or.inr trivial | apply And.intro))
  refine L_f hE ?_; cbv
  refine hX2 _ _ ?_; cbv
  refine L_body hE lay_ok Tryz.call64 Tryz.func64 rfl ?_
  intro A10 E10 Q10 hE10 hf10 hQ10; cbv
  refine L_check hE10 rfl (.inr rfl) ?_; cbv
  refine L_appL hE10 hR h rfl (hf10 _ (.inr ⟨hf _, _, _, _, rfl⟩)) (fun _ => rfl) (by decide) fun l14 e h => ?_; cbv at e; rw [e]; clear e
  refine And.left (hQ10 _ _ rfl ?_); cbv
  refine L_str hE hR h rfl rfl (hf _) fun s15 h => ?_; cbv
  exact And.left (hQ _ _ _ rfl rfl (by cases h; subst hR; rfl))
theorem matcher_Text_w {N : Nat} {p0 : GMatcher} {r : ByteArray} (h : matcher_Text_g N p0 = some r) : FunS Tryz.prog 17 [.agg [fS p0.Name, fI .i64 p0.Op, fS p0.Value]] (matcher_Text_s rw) r := by
  refine fun_w lay_ok Tryz.call17 Tryz.func17 rfl ?_
  intro A W E Q R hE hR hf hQ; rcases W with ⟨ar, cm, conj, cv, sl, sc, ct, sa, ss, ll, _, _, _, _, mi, mx, _, _, _⟩
  unfold matcher_Text_g at h
  rw [q_ct hE] at h
  cbv
  refine L_whole hE lay_ok (by kernel_rfl) (by kernel_rfl) ?_; cbv
  refine L_pcall hE hR h (fun _ e => matcher_sign_w e) rfl rfl fun a1 h => ?_; cbv
  refine L_ct hE h fun h => ?_
  refine L_pcall hE hR h (fun _ e => quote_Text_w e) rfl rfl fun a2 h => ?_; cbv
  refine L_ct hE h fun h => ?_
  exact And.left (hQ _ _ _ rfl rfl (by cases h; subst hR; rfl))
theorem l22_works_w {N : Nat} {r : Bool} (h : l22_works_g N = some r) : FunS Tryz.prog 7 [] (l22_works_s rw) r := by
  refine fun_w lay_ok Tryz.call7 Tryz.func7 rfl ?_
  intro A W E Q R hE hR hf hQ; rcases W with ⟨ar, cm, conj, cv, sl, sc, ct, sa, ss, ll, _, _, _, _, mi, mx, _, _, _⟩
  unfold l22_works_g at h
  rw [q_cm hE, q_conj hE, q_sc hE] at h
  cbv
  refine L_call hE hR h (fun _ e => matcher_Take_w e) rfl rfl fun a1 h => ?_; cbv
  refine L_rgJ hE lay_ok h 3 (fun j1 : Bool => [(0, fB j1)]) (fun j1 => []) (fun j1 h => ?_) (fun j1 h => ?_) <;> cbv
  · refine L_call hE hR h (fun _ e => matcher_Holds_w e) (by subst hR; rfl) rfl fun a2 h => ?_; cbv
    refine L_if hE h (fun h => ?_) (fun h => ?_) <;> cbv
    · refine L_bare hE hR h (fun _ e => matcher_Holds_w e) rfl (by subst hR; rfl) (fun _ => rfl) fun a3 h => ?_; cbv
      refine L_if hE h (fun h => ?_) (fun h => ?_) <;> cbv
      · refine L_if hE h (fun h => ?_) (fun h => ?_) <;> cbv
        · refine L_if hE h (fun h => ?_) (fun h => ?_) <;> cbv
          · refine L_if hE h (fun h => ?_) (fun h => ?_) <;> cbv
            · refine L_call hE hR h (fun _ e => matcher_Test_w e) rfl rfl fun a4 h => ?_; cbv
              refine L_if hE h (fun h => ?_) (fun h => ?_) <;> cbv
              · refine L_call hE hR h (fun _ e => matcher_Test_w e) rfl rfl fun a5 h => ?_; cbv
                refine L_if hE h (fun h => ?_) (fun h => ?_) <;> cbv
                · refine L_call hE hR h (fun _ e => matcher_Text_w e) rfl rfl fun a6 h => ?_; cbv
                  cases h; (cbv; (try simp only [e_rnil hR]); repeat' (first | exact trivial | exact rfl | exact Or.inr trivial | apply And.intro))
                cases h; (cbv; (try simp only [e_rnil hR]); repeat' (first | exact trivial | exact rfl | exact Or.inr trivial | apply And.intro))
              cases h; (cbv; (try simp only [e_rnil hR]); repeat' (first | exact trivial | exact rfl | exact Or.inr trivial | apply And.intro))
            cases h; (cbv; (try simp only [e_rnil hR]); repeat' (first | exact trivial | exact rfl | exact Or.inr trivial | apply And.intro))
          cases h; (cbv; (try simp only [e_rnil hR]); repeat' (first | exact trivial | exact rfl | exact Or.inr trivial | apply And.intro))
        cases h; (cbv; (try simp only [e_rnil hR]); repeat' (first | exact trivial | exact rfl | exact Or.inr trivial | apply And.intro))
      cases h; (cbv; (try simp only [e_rnil hR]); repeat' (first | exact trivial | exact rfl | exact Or.inr trivial | apply And.intro))
    cases h; (cbv; (try simp only [e_rnil hR]); repeat' (first | exact trivial | exact rfl | exact Or.inr trivial | apply And.intro))
  exact And.left (hQ _ _ _ rfl rfl (by cases h; subst hR; rfl))
theorem r09_sign_w {p0 : Int} {p1 : Bool} {r : Bool} (h : r09_sign_g p0 p1 = some r) : FunS Tryz.prog 48 [fI .u8 p0, fB p1] (r09_sign_s rw) r := by
  refine fun_w lay_ok Tryz.call48 Tryz.func48 rfl ?_
  intro A W E Q R hE hR hf hQ; rcases W with ⟨ar, cm, conj, cv, sl, sc, ct, sa, ss, ll, _, _, _, _, mi, mx, _, _, _⟩
  unfold r09_sign_g at h
  rw [q_cm hE] at h
  cbv
  refine L_rgJ hE lay_ok h 0 (fun j1 : Bool => [(22, fB j1)]) (fun j1 => []) (fun j1 h => ?_) (fun j1 h => ?_) <;> cbv
  · refine L_if hE h (fun h => ?_) (fun h => ?_) <;> cbv
    · cases h; (cbv; (try simp only [e_rnil hR]); repeat' (first | exact trivial | exact rfl | exact Or.inr trivial | apply And.intro))
    refine L_if hE h (fun h => ?_) (fun h => ?_) <;> cbv
    · refine L_if hE h (fun h => ?_) (fun h => ?_) <;> cbv
      · cases h; (cbv; (try simp only [e_rnil hR]); repeat' (first | exact trivial | exact rfl | exact Or.inr trivial | apply And.intro))
      refine L_if hE h (fun h => ?_) (fun h => ?_) <;> cbv
      · cases h; (cbv; (try simp only [e_rnil hR]); repeat' (first | exact trivial | exact rfl | exact Or.inr trivial | apply And.intro))
      cases h; (cbv; (try simp only [e_rnil hR]); repeat' (first | exact trivial | exact rfl | exact Or.inr trivial | apply And.intro))
    refine L_if hE h (fun h => ?_) (fun h => ?_) <;> cbv
    · cases h; (cbv; (try simp only [e_rnil hR]); repeat' (first | exact trivial | exact rfl | exact Or.inr trivial | apply And.intro))
    cases h; (cbv; (try simp only [e_rnil hR]); repeat' (first | exact trivial | exact rfl | exact Or.inr trivial | apply And.intro))
  refine L_if hE h (fun h => ?_) (fun h => ?_) <;> cbv
  · exact And.left (hQ _ _ _ rfl rfl (by cases h; subst hR; rfl))
  refine L_rgJ hE lay_ok h 0 (fun j2 : Bool => [(4, fB j2)]) (fun j2 => []) (fun j2 h => ?_) (fun j2 h => ?_) <;> cbv
  · refine L_if hE h (fun h => ?_) (fun h => ?_) <;> cbv
    · refine L_if hE h (fun h => ?_) (fun h => ?_) <;> cbv
      · cases h; (cbv; (try simp only [e_rnil hR]); repeat' (first | exact trivial | exact rfl | exact Or.inr trivial | apply And.intro))
      cases h; (cbv; (try simp only [e_rnil hR]); repeat' (first | exact trivial | exact rfl | exact Or.inr trivial | apply And.intro))
    cases h; (cbv; (try simp only [e_rnil hR]); repeat' (first | exact trivial | exact rfl | exact Or.inr trivial | apply And.intro))
  exact And.left (hQ _ _ _ rfl rfl (by cases h; subst hR; rfl))
theorem r09_Label_w {N : Nat} {p0 : ByteArray} {r : Bool} (h : r09_Label_g N p0 = some r) : FunS Tryz.prog 23 [fS p0] (r09_Label_s rw) r := by
  refine fun_w lay_ok Tryz.call23 Tryz.func23 rfl ?_
  intro A W E Q R hE hR hf hQ; rcases W with ⟨ar, cm, conj, cv, sl, sc, ct, sa, ss, ll, _, _, _, _, mi, mx, _, _, _⟩
  unfold r09_Label_g at h
  rw [q_cm hE, q_sl hE] at h
  cbv
  refine L_rgJ hE lay_ok h 0 (fun j1 : Bool => [(11, fB j1)]) (fun j1 => []) (fun j1 h => ?_) (fun j1 h => ?_) <;> cbv
  · refine L_if hE h (fun h => ?_) (fun h => ?_) <;> cbv
    · cases h; (cbv; (try simp only [e_rnil hR]); repeat' (first | exact trivial | exact rfl | exact Or.inr trivial | apply And.intro))
    cases h; (cbv; (try simp only [e_rnil hR]); repeat' (first | exact trivial | exact rfl | exact Or.inr trivial | apply And.intro))
  refine L_if hE h (fun h => ?_) (fun h => ?_) <;> cbv
  · exact And.left (hQ _ _ _ rfl rfl (by cases h; subst hR; rfl))
  refine L_for hE lay_ok 0 (fun g : Int × Nat => [(2, fB false), (3, fI .i64 g.1)]) (fun g => []) (fun g => r09_Label_l1 p0 g.2 g.1 = some r) (fun g => g.2) (_, N) h ?_ ?_
  · (cbv; (try simp only [e_rnil hR]); repeat' (first | exact trivial | exact rfl | exact Or.inr trivial | apply And.intro))
  rintro ⟨v1, m1⟩ h Q1 hN1 hT1 hX1
  have h : r09_Label_l1 p0 m1 v1 = some r := h
  cases m1 with
  | zero => exact nomatch (show (none : Option _) = some _ from h)
  | succ m1 =>
  rw [r09_Label_l1] at h
  rw [q_ar hE, q_cm hE, q_sl hE, q_sa hE] at h
  cbv
  refine L_if hE h (fun h => ?_) (fun h => ?_) <;> cbv
  · refine L_sin hE h fun h => ?_
    refine L_call hE hR h (fun _ e => r09_sign_w e) rfl rfl fun a2 h => ?_; cbv
    refine L_if hE h (fun h => ?_) (fun h => ?_) <;> cbv
    · refine hT1 _ ?_
      exact And.left (hQ _ _ _ rfl rfl (by cases h; subst hR; rfl))
    refine hN1 _ (_, m1) [] h (Nat.lt_succ_self _) trivial ?_; (cbv; (try simp only [e_rnil hR]); repeat' (first | exact trivial | exact rfl | exact Or.inr trivial | apply And.intro))
  refine hX1 _ _ ?_; cbv
  exact And.left (hQ _ _ _ rfl rfl (by cases h; subst hR; rfl))
end Gn
end Go.Proofs.YtampjnpnekekiaaGreatDoor
namespace Go.Proofs.YtampjnpnekekiaaGreatDoor
open Go Go.RowKit
set_option linter.unusedVariables false
set_option linter.unusedSimpArgs false
set_option maxRecDepth 100000
set_option maxHeartbeats 4000000
open Ab Sh
namespace Gn
theorem r22_Right_w {N : Nat} {p0 : GMatcher} {r : Int} (h : r22_Right_g N p0 = some r) : FunS Tryz.prog 9 [.agg [fS p0.Name, fI .i64 p0.Op, fS p0.Value]] (r22_Right_s rw) r := by
  refine fun_w lay_ok Tryz.call9 Tryz.func9 rfl ?_
  intro A W E Q R hE hR hf hQ; rcases W with ⟨ar, cm, conj, cv, sl, sc, ct, sa, ss, ll, _, _, _, _, mi, mx, _, _, _⟩
  unfold r22_Right_g at h
  rw [q_cm hE, q_sl hE] at h
  cbv
  refine L_call hE hR h (fun _ e => r09_Label_w e) rfl rfl fun a1 h => ?_; cbv
  refine L_if hE h (fun h => ?_) (fun h => ?_) <;> cbv
  · exact And.left (hQ _ _ _ rfl rfl (by cases h; subst hR; rfl))
  refine L_rgJ hE lay_ok h 1 (fun j1 : Bool => [(16, fB j1)]) (fun j1 => []) (fun j1 h => ?_) (fun j1 h => ?_) <;> cbv
  · refine L_if hE h (fun h => ?_) (fun h => ?_) <;> cbv
    · cases h; (cbv; (try simp only [e_rnil hR]); repeat' (first | exact trivial | exact rfl | exact Or.inr trivial | apply And.intro))
    cases h; (cbv; (try simp only [e_rnil hR]); repeat' (first | exact trivial | exact rfl | exact Or.inr trivial | apply And.intro))
  refine L_if hE h (fun h => ?_) (fun h => ?_) <;> cbv
  · exact And.left (hQ _ _ _ rfl rfl (by cases h; subst hR; rfl))
  refine L_rgJ hE lay_ok h 1 (fun j2 : Bool => [(25, fB j2)]) (fun j2 => []) (fun j2 h => ?_) (fun j2 h => ?_) <;> cbv
  · refine L_if hE h (fun h => ?_) (fun h => ?_) <;> cbv
    · cases h; (cbv; (try simp only [e_rnil hR]); repeat' (first | exact trivial | exact rfl | exact Or.inr trivial | apply And.intro))
    cases h; (cbv; (try simp only [e_rnil hR]); repeat' (first | exact trivial | exact rfl | exact Or.inr trivial | apply And.intro))
  refine L_if hE h (fun h => ?_) (fun h => ?_) <;> cbv
  · exact And.left (hQ _ _ _ rfl rfl (by cases h; subst hR; rfl))
  refine L_if hE h (fun h => ?_) (fun h => ?_) <;> cbv
  · refine L_call hE hR h (fun _ e => r13_Parse_w e) rfl rfl fun a2 h => ?_; cbv
    exact And.left (hQ _ _ _ rfl rfl (by cases h; subst hR; rfl))
  exact And.left (hQ _ _ _ rfl rfl (by cases h; subst hR; rfl))
theorem r13_times_w {p0 : Int} {p1 : Int} {r : Bool} (h : r13_times_g p0 p1 = some r) : FunS Tryz.prog 78 [fI .i64 p0, fI .i64 p1] (r13_times_s rw) r := by
  refine fun_w lay_ok Tryz.call78 Tryz.func78 rfl ?_
  intro A W E Q R hE hR hf hQ; rcases W with ⟨ar, cm, conj, cv, sl, sc, ct, sa, ss, ll, _, _, _, _, mi, mx, _, _, _⟩
  unfold r13_times_g at h
  rw [q_cm hE] at h
  cbv
  refine L_rgJ hE lay_ok h 0 (fun j1 : Bool => [(22, fB j1)]) (fun j1 => []) (fun j1 h => ?_) (fun j1 h => ?_) <;> cbv
  · refine L_if hE h (fun h => ?_) (fun h => ?_) <;> cbv
    · cases h; (cbv; (try simp only [e_rnil hR]); repeat' (first | exact trivial | exact rfl | exact Or.inr trivial | apply And.intro))
    refine L_if hE h (fun h => ?_) (fun h => ?_) <;> cbv
    · cases h; (cbv; (try simp only [e_rnil hR]); repeat' (first | exact trivial | exact rfl | exact Or.inr trivial | apply And.intro))
    refine L_if hE h (fun h => ?_) (fun h => ?_) <;> cbv
    · cases h; (cbv; (try simp only [e_rnil hR]); repeat' (first | exact trivial | exact rfl | exact Or.inr trivial | apply And.intro))
    refine L_if hE h (fun h => ?_) (fun h => ?_) <;> cbv
    · cases h; (cbv; (try simp only [e_rnil hR]); repeat' (first | exact trivial | exact rfl | exact Or.inr trivial | apply And.intro))
    cases h; (cbv; (try simp only [e_rnil hR]); repeat' (first | exact trivial | exact rfl | exact Or.inr trivial | apply And.intro))
  refine L_if hE h (fun h => ?_) (fun h => ?_) <;> cbv
  · exact And.left (hQ _ _ _ rfl rfl (by cases h; subst hR; rfl))
  refine L_rgJ hE lay_ok h 0 (fun j2 : Bool => [(4, fB j2)]) (fun j2 => []) (fun j2 h => ?_) (fun j2 h => ?_) <;> cbv
  · refine L_if hE h (fun h => ?_) (fun h => ?_) <;> cbv
    · cases h; (cbv; (try simp only [e_rnil hR]); repeat' (first | exact trivial | exact rfl | exact Or.inr trivial | apply And.intro))
    cases h; (cbv; (try simp only [e_rnil hR]); repeat' (first | exact trivial | exact rfl | exact Or.inr trivial | apply And.intro))
  exact And.left (hQ _ _ _ rfl rfl (by cases h; subst hR; rfl))
theorem r13_Right_w : ∀ {N : Nat} {p0 : Node} {r : Bool}, r13_Right_g N p0 = some r → FunS Tryz.prog 49 [.agg [fI .i64 p0.kind, fI .u64 (p0.set.a.toNat : Int), fI .u64 (p0.set.b.toNat : Int), fI .u64 (p0.set.c.toNat : Int), fI .u64 (p0.set.d.toNat : Int), .t (.slc (rw _ nodeRow p0.kids)), fI .i64 p0.min, fI .i64 p0.max]] (r13_Right_s rw) r := by
  intro N
  induction N with
  | zero => intros; rename_i h; exact nomatch (show (none : Option _) = some _ from h)
  | succ N ih =>
  intro p0 r h
  refine fun_w lay_ok Tryz.call49 Tryz.func49 rfl ?_
  intro A W E Q R hE hR hf hQ; rcases W with ⟨ar, cm, conj, cv, sl, sc, ct, sa, ss, ll, _, _, _, _, mi, mx, _, _, _⟩
  rw [← hR]
  rw [r13_Right_g] at h
  rw [q_cm hE, q_conj hE, q_ll hE, ← hR] at h
  cbv
  refine L_rgJ hE lay_ok h 1 (fun j1 : Bool => [(13, fB j1)]) (fun j1 => []) (fun j1 h => ?_) (fun j1 h => ?_) <;> cbv
  · refine L_if hE h (fun h => ?_) (fun h => ?_) <;> cbv
    · cases h; (cbv; (try simp only [e_rnil hR]); repeat' (first | exact trivial | exact rfl | exact Or.inr trivial | apply And.intro))
    cases h; (cbv; (try simp only [e_rnil hR]); repeat' (first | exact trivial | exact rfl | exact Or.inr trivial | apply And.intro))
  refine L_if hE h (fun h => ?_) (fun h => ?_) <;> cbv
  · exact And.left (hQ _ _ _ rfl rfl (by cases h; subst hR; rfl))
  refine L_rgJ hE lay_ok h 2 (fun j2 : Bool => [(37, fB j2)]) (fun j2 => []) (fun j2 h => ?_) (fun j2 h => ?_) <;> cbv
  · refine L_if hE h (fun h => ?_) (fun h => ?_) <;> cbv
    · refine L_if hE h (fun h => ?_) (fun h => ?_) <;> cbv
      · cases h; (cbv; (try simp only [e_rnil hR]); repeat' (first | exact trivial | exact rfl | exact Or.inr trivial | apply And.intro))
      refine L_if hE h (fun h => ?_) (fun h => ?_) <;> cbv
      · refine L_if hE h (fun h => ?_) (fun h => ?_) <;> cbv
        · cases h; (cbv; (try simp only [e_rnil hR]); repeat' (first | exact trivial | exact rfl | exact Or.inr trivial | apply And.intro))
        cases h; (cbv; (try simp only [e_rnil hR]); repeat' (first | exact trivial | exact rfl | exact Or.inr trivial | apply And.intro))
      cases h; (cbv; (try simp only [e_rnil hR]); repeat' (first | exact trivial | exact rfl | exact Or.inr trivial | apply And.intro))
    refine L_if hE h (fun h => ?_) (fun h => ?_) <;> cbv
    · refine L_if hE h (fun h => ?_) (fun h => ?_) <;> cbv
      · cases h; (cbv; (try simp only [e_rnil hR]); repeat' (first | exact trivial | exact rfl | exact Or.inr trivial | apply And.intro))
      cases h; (cbv; (try simp only [e_rnil hR]); repeat' (first | exact trivial | exact rfl | exact Or.inr trivial | apply And.intro))
    cases h; (cbv; (try simp only [e_rnil hR]); repeat' (first | exact trivial | exact rfl | exact Or.inr trivial | apply And.intro))
  refine L_if hE h (fun h => ?_) (fun h => ?_) <;> cbv
  · exact And.left (hQ _ _ _ rfl rfl (by cases h; subst hR; rfl))
  refine L_rgJ hE lay_ok h 2 (fun j3 : Bool => [(82, fB j3)]) (fun j3 => []) (fun j3 h => ?_) (fun j3 h => ?_) <;> cbv
  · refine L_if hE h (fun h => ?_) (fun h => ?_) <;> cbv
    · refine L_if hE h (fun h => ?_) (fun h => ?_) <;> cbv
      · cases h; (cbv; (try simp only [e_rnil hR]); repeat' (first | exact trivial | exact rfl | exact Or.inr trivial | apply And.intro))
      refine L_if hE h (fun h => ?_) (fun h => ?_) <;> cbv
      · refine L_if hE h (fun h => ?_) (fun h => ?_) <;> cbv
        · cases h; (cbv; (try simp only [e_rnil hR]); repeat' (first | exact trivial | exact rfl | exact Or.inr trivial | apply And.intro))
        refine L_if hE h (fun h => ?_) (fun h => ?_) <;> cbv
        · refine L_if hE h (fun h => ?_) (fun h => ?_) <;> cbv
          · cases h; (cbv; (try simp only [e_rnil hR]); repeat' (first | exact trivial | exact rfl | exact Or.inr trivial | apply And.intro))
          refine L_if hE h (fun h => ?_) (fun h => ?_) <;> cbv
          · refine L_if hE h (fun h => ?_) (fun h => ?_) <;> cbv
            · cases h; (cbv; (try simp only [e_rnil hR]); repeat' (first | exact trivial | exact rfl | exact Or.inr trivial | apply And.intro))
            refine L_call hE hR h (fun _ e => r13_times_w e) rfl rfl fun a1 h => ?_; cbv
            cases h; (cbv; (try simp only [e_rnil hR]); repeat' (first | exact trivial | exact rfl | exact Or.inr trivial | apply And.intro))
          cases h; (cbv; (try simp only [e_rnil hR]); repeat' (first | exact trivial | exact rfl | exact Or.inr trivial | apply And.intro))
        refine L_if hE h (fun h => ?_) (fun h => ?_) <;> cbv
        · refine L_if hE h (fun h => ?_) (fun h => ?_) <;> cbv
          · cases h; (cbv; (try simp only [e_rnil hR]); repeat' (first | exact trivial | exact rfl | exact Or.inr trivial | apply And.intro))
          refine L_call hE hR h (fun _ e => r13_times_w e) rfl rfl fun a2 h => ?_; cbv
          cases h; (cbv; (try simp only [e_rnil hR]); repeat' (first | exact trivial | exact rfl | exact Or.inr trivial | apply And.intro))
        cases h; (cbv; (try simp only [e_rnil hR]); repeat' (first | exact trivial | exact rfl | exact Or.inr trivial | apply And.intro))
      refine L_if hE h (fun h => ?_) (fun h => ?_) <;> cbv
      · refine L_if hE h (fun h => ?_) (fun h => ?_) <;> cbv
        · cases h; (cbv; (try simp only [e_rnil hR]); repeat' (first | exact trivial | exact rfl | exact Or.inr trivial | apply And.intro))
        refine L_if hE h (fun h => ?_) (fun h => ?_) <;> cbv
        · refine L_if hE h (fun h => ?_) (fun h => ?_) <;> cbv
          · cases h; (cbv; (try simp only [e_rnil hR]); repeat' (first | exact trivial | exact rfl | exact Or.inr trivial | apply And.intro))
          refine L_call hE hR h (fun _ e => r13_times_w e) rfl rfl fun a3 h => ?_; cbv
          cases h; (cbv; (try simp only [e_rnil hR]); repeat' (first | exact trivial | exact rfl | exact Or.inr trivial | apply And.intro))
        cases h; (cbv; (try simp only [e_rnil hR]); repeat' (first | exact trivial | exact rfl | exact Or.inr trivial | apply And.intro))
      refine L_if hE h (fun h => ?_) (fun h => ?_) <;> cbv
      · refine L_if hE h (fun h => ?_) (fun h => ?_) <;> cbv
        · cases h; (cbv; (try simp only [e_rnil hR]); repeat' (first | exact trivial | exact rfl | exact Or.inr trivial | apply And.intro))
        refine L_call hE hR h (fun _ e => r13_times_w e) rfl rfl fun a4 h => ?_; cbv
        cases h; (cbv; (try simp only [e_rnil hR]); repeat' (first | exact trivial | exact rfl | exact Or.inr trivial | apply And.intro))
      cases h; (cbv; (try simp only [e_rnil hR]); repeat' (first | exact trivial | exact rfl | exact Or.inr trivial | apply And.intro))
    refine L_if hE h (fun h => ?_) (fun h => ?_) <;> cbv
    · refine L_if hE h (fun h => ?_) (fun h => ?_) <;> cbv
      · cases h; (cbv; (try simp only [e_rnil hR]); repeat' (first | exact trivial | exact rfl | exact Or.inr trivial | apply And.intro))
      refine L_if hE h (fun h => ?_) (fun h => ?_) <;> cbv
      · refine L_if hE h (fun h => ?_) (fun h => ?_) <;> cbv
        · cases h; (cbv; (try simp only [e_rnil hR]); repeat' (first | exact trivial | exact rfl | exact Or.inr trivial | apply And.intro))
        refine L_if hE h (fun h => ?_) (fun h => ?_) <;> cbv
        · refine L_if hE h (fun h => ?_) (fun h => ?_) <;> cbv
          · cases h; (cbv; (try simp only [e_rnil hR]); repeat' (first | exact trivial | exact rfl | exact Or.inr trivial | apply And.intro))
          refine L_call hE hR h (fun _ e => r13_times_w e) rfl rfl fun a5 h => ?_; cbv
          cases h; (cbv; (try simp only [e_rnil hR]); repeat' (first | exact trivial | exact rfl | exact Or.inr trivial | apply And.intro))
        cases h; (cbv; (try simp only [e_rnil hR]); repeat' (first | exact trivial | exact rfl | exact Or.inr trivial | apply And.intro))
      refine L_if hE h (fun h => ?_) (fun h => ?_) <;> cbv
      · refine L_if hE h (fun h => ?_) (fun h => ?_) <;> cbv
        · cases h; (cbv; (try simp only [e_rnil hR]); repeat' (first | exact trivial | exact rfl | exact Or.inr trivial | apply And.intro))
        refine L_call hE hR h (fun _ e => r13_times_w e) rfl rfl fun a6 h => ?_; cbv
        cases h; (cbv; (try simp only [e_rnil hR]); repeat' (first | exact trivial | exact rfl | exact Or.inr trivial | apply And.intro))
      cases h; (cbv; (try simp only [e_rnil hR]); repeat' (first | exact trivial | exact rfl | exact Or.inr trivial | apply And.intro))
    refine L_if hE h (fun h => ?_) (fun h => ?_) <;> cbv
    · refine L_if hE h (fun h => ?_) (fun h => ?_) <;> cbv
      · cases h; (cbv; (try simp only [e_rnil hR]); repeat' (first | exact trivial | exact rfl | exact Or.inr trivial | apply And.intro))
      refine L_if hE h (fun h => ?_) (fun h => ?_) <;> cbv
      · refine L_if hE h (fun h => ?_) (fun h => ?_) <;> cbv
        · cases h; (cbv; (try simp only [e_rnil hR]); repeat' (first | exact trivial | exact rfl | exact Or.inr trivial | apply And.intro))
        refine L_call hE hR h (fun _ e => r13_times_w e) rfl rfl fun a7 h => ?_; cbv
        cases h; (cbv; (try simp only [e_rnil hR]); repeat' (first | exact trivial | exact rfl | exact Or.inr trivial | apply And.intro))
      cases h; (cbv; (try simp only [e_rnil hR]); repeat' (first | exact trivial | exact rfl | exact Or.inr trivial | apply And.intro))
    refine L_if hE h (fun h => ?_) (fun h => ?_) <;> cbv
    · refine L_if hE h (fun h => ?_) (fun h => ?_) <;> cbv
      · cases h; (cbv; (try simp only [e_rnil hR]); repeat' (first | exact trivial | exact rfl | exact Or.inr trivial | apply And.intro))
      refine L_call hE hR h (fun _ e => r13_times_w e) rfl rfl fun a8 h => ?_; cbv
      cases h; (cbv; (try simp only [e_rnil hR]); repeat' (first | exact trivial | exact rfl | exact Or.inr trivial | apply And.intro))
    cases h; (cbv; (try simp only [e_rnil hR]); repeat' (first | exact trivial | exact rfl | exact Or.inr trivial | apply And.intro))
  refine L_if hE h (fun h => ?_) (fun h => ?_) <;> cbv
  · exact And.left (hQ _ _ _ rfl rfl (by cases h; subst hR; rfl))
  refine L_for hE lay_ok 2 (fun g : Int × Nat => [(2, fB false), (5, fI .i64 g.1)]) (fun g => []) (fun g => r13_Right_l1 (r13_Right_g N) p0 g.2 g.1 = some r) (fun g => g.2) (_, N) h ?_ ?_
  · (cbv; (try simp only [e_rnil hR]); repeat' (first | exact trivial | exact rfl | exact Or.inr trivial | apply And.intro))
  rintro ⟨v9, m1⟩ h Q1 hN1 hT1 hX1
  have h : r13_Right_l1 (r13_Right_g N) p0 m1 v9 = some r := h
  cases m1 with
  | zero => exact nomatch (show (none : Option _) = some _ from h)
  | succ m1 =>
  rw [r13_Right_l1] at h
  rw [q_ar hE, q_cm hE, q_ll hE, ← hR] at h
  cbv
  refine L_if hE h (fun h => ?_) (fun h => ?_) <;> cbv
  · refine L_whole hE lay_ok (by kernel_rfl) (by kernel_rfl) ?_; cbv
    refine L_rowN hE hR h fun r10 h => ?_; cbv
    refine L_pcall hE hR h (fun _ e => ih e) (by subst hR; rfl) rfl fun a11 h => ?_; cbv
    refine L_if hE h (fun h => ?_) (fun h => ?_) <;> cbv
    · refine L_if hE h (fun h => ?_) (fun h => ?_) <;> cbv
      · refine L_if hE h (fun h => ?_) (fun h => ?_) <;> cbv
        · refine L_if hE h (fun h => ?_) (fun h => ?_) <;> cbv
          · refine L_if hE h (fun h => ?_) (fun h => ?_) <;> cbv
            · refine L_if hE h (fun h => ?_) (fun h => ?_) <;> cbv
              · refine L_if hE h (fun h => ?_) (fun h => ?_) <;> cbv
                · refine L_if hE h (fun h => ?_) (fun h => ?_) <;> cbv
                  · refine L_if hE h (fun h => ?_) (fun h => ?_) <;> cbv
                    · refine L_if hE h (fun h => ?_) (fun h => ?_) <;> cbv
                      · refine L_if hE h (fun h => ?_) (fun h => ?_) <;> cbv
                        · refine L_if hE h (fun h => ?_) (fun h => ?_) <;> cbv
                          · refine L_t hE ?_; cbv
                            refine hT1 _ ?_
                            exact And.left (hQ _ _ _ rfl rfl (by cases h; subst hR; rfl))
                          exact nomatch h
                        exact nomatch h
                      exact nomatch h
                    exact nomatch h
                  exact nomatch h
                exact nomatch h
              exact nomatch h
            exact nomatch h
          exact nomatch h
        exact nomatch h
      exact nomatch h
    refine L_if hE h (fun h => ?_) (fun h => ?_) <;> cbv
    · exact nomatch h
    refine L_if hE h (fun h => ?_) (fun h => ?_) <;> cbv
    · exact nomatch h
    refine L_if hE h (fun h => ?_) (fun h => ?_) <;> cbv
    · exact nomatch h
    refine L_rowN hE hR h fun r12 h => ?_; cbv
    refine L_if hE h (fun h => ?_) (fun h => ?_) <;> cbv
    · exact nomatch h
    refine L_if hE h (fun h => ?_) (fun h => ?_) <;> cbv
    · exact nomatch h
    refine L_if hE h (fun h => ?_) (fun h => ?_) <;> cbv
    · exact nomatch h
    refine L_if hE h (fun h => ?_) (fun h => ?_) <;> cbv
    · exact nomatch h
    refine L_if hE h (fun h => ?_) (fun h => ?_) <;> cbv
    · exact nomatch h
    refine L_if hE h (fun h => ?_) (fun h => ?_) <;> cbv
    · exact nomatch h
    refine L_if hE h (fun h => ?_) (fun h => ?_) <;> cbv
    · refine L_if hE h (fun h => ?_) (fun h => ?_) <;> cbv
      · refine L_if hE h (fun h => ?_) (fun h => ?_) <;> cbv
        · refine L_if hE h (fun h => ?_) (fun h => ?_) <;> cbv
          · exact nomatch h
          refine L_if hE h (fun h => ?_) (fun h => ?_) <;> cbv
          · refine L_if hE h (fun h => ?_) (fun h => ?_) <;> cbv
            · exact nomatch h
            refine L_if hE h (fun h => ?_) (fun h => ?_) <;> cbv
            · refine hT1 _ ?_
              exact And.left (hQ _ _ _ rfl rfl (by cases h; subst hR; rfl))
            refine hN1 _ (_, m1) [] h (Nat.lt_succ_self _) trivial ?_; (cbv; (try simp only [e_rnil hR]); repeat' (first | exact trivial | exact rfl | exact Or.inr trivial | apply And.intro))
          exact nomatch h
        exact nomatch h
      exact nomatch h
    refine L_if hE h (fun h => ?_) (fun h => ?_) <;> cbv
    · exact nomatch h
    refine L_if hE h (fun h => ?_) (fun h => ?_) <;> cbv
    · exact nomatch h
    refine L_if hE h (fun h => ?_) (fun h => ?_) <;> cbv
    · exact nomatch h
    refine L_if hE h (fun h => ?_) (fun h => ?_) <;> cbv
    · exact nomatch h
    refine L_if hE h (fun h => ?_) (fun h => ?_) <;> cbv
    · exact nomatch h
    refine L_f hE ?_; cbv
    refine hN1 _ (_, m1) [] h (Nat.lt_succ_self _) trivial ?_; (cbv; (try simp only [e_rnil hR]); repeat' (first | exact trivial | exact rfl | exact Or.inr trivial | apply And.intro))
  refine hX1 _ _ ?_; cbv
  exact And.left (hQ _ _ _ rfl rfl (by cases h; subst hR; rfl))
end Gn
end Go.Proofs.YtampjnpnekekiaaGreatDoor
