/- The bodies do what the plain functions tell. -/
import Derived.Test.YtampjnpnekekiaaGreatDoorK231
import Derived.Test.YtampjnpnekekiaaGreatDoorK242
import Derived.Test.YtampjnpnekekiaaGreatDoorK240
import Derived.Test.YtampjnpnekekiaaGreatDoorK241
import Derived.ChangeArms
import Derived.OpenShut
import Derived.DataReads
import Derived.WideShapes
import Derived.Deep.Slices
import Derived.Laws.OwnMore
import Derived.Laws.AppendOwn
import Derived.Test.YtampjnpnekekiaaGreatDoorK220
namespace Go.Proofs.YtampjnpnekekiaaGreatDoor
open Go Go.RowKit
set_option linter.unusedVariables false
set_option linter.unusedSimpArgs false
set_option maxRecDepth 100000
set_option maxHeartbeats 4000000
open Ab Sh
namespace Gn
theorem r02_Hex_w {N : Nat} {p0 : ByteArray} {r : ByteArray} (h : r02_Hex_g N p0 = some r) : FunS Tryz.prog 63 [fS p0] (r02_Hex_s rw) r := by
  refine fun_w lay_ok Tryz.call63 Tryz.func63 rfl ?_
  intro A W E Q R hE hR hf hQ; rcases W with ⟨ar, cm, conj, cv, sl, sc, ct, sa, ss, ll, _, _, _, _, mi, mx, _, _, _⟩
  unfold r02_Hex_g at h
  skip
  cbv
  refine L_for hE lay_ok 0 (fun g : ByteArray × Int × Nat => [(4, fS g.1), (5, fI .i64 g.2.1)]) (fun g => []) (fun g => r02_Hex_l1 p0 g.2.2 g.1 g.2.1 = some r) (fun g => g.2.2) (_, _, N) h ?_ ?_
  · (cbv; (try simp only [e_rnil hR]); repeat' (first | exact trivial | exact rfl | exact Or.inr trivial | apply And.intro))
  rintro ⟨v1, v2, m1⟩ h Q1 hN1 hT1 hX1
  have h : r02_Hex_l1 p0 m1 v1 v2 = some r := h
  cases m1 with
  | zero => exact nomatch (show (none : Option _) = some _ from h)
  | succ m1 =>
  rw [r02_Hex_l1] at h
  rw [q_ar hE, q_cm hE, q_cv hE, q_sl hE, q_ct hE, q_sa hE, q_ss hE] at h
  cbv
  refine L_if hE h (fun h => ?_) (fun h => ?_) <;> cbv
  · refine L_whole hE lay_ok (by kernel_rfl) (by kernel_rfl) ?_; cbv
    refine L_sin hE h fun h => ?_
    refine L_ne0 hE h fun h => ?_
    refine L_sin hE h fun h => ?_
    refine L_ne0 hE h fun h => ?_
    refine L_whole hE lay_ok (by kernel_rfl) (by kernel_rfl) ?_; cbv
    refine L_ssin hE h fun h => ?_
    refine L_ct hE h fun h => ?_
    refine L_ssin hE h fun h => ?_
    refine L_ct hE h fun h => ?_
    refine hN1 _ (_, _, m1) [] h (Nat.lt_succ_self _) trivial ?_; (cbv; (try simp only [e_rnil hR]); repeat' (first | exact trivial | exact rfl | exact Or.inr trivial | apply And.intro))
  refine hX1 _ _ ?_; cbv
  exact And.left (hQ _ _ _ rfl rfl (by cases h; subst hR; rfl))
theorem r10_Text_w {N : Nat} {p0 : ByteArray} {r : ByteArray} (h : r10_Text_g N p0 = some r) : FunS Tryz.prog 38 [fS p0] (r10_Text_s rw) r := by
  refine fun_w lay_ok Tryz.call38 Tryz.func38 rfl ?_
  intro A W E Q R hE hR hf hQ; rcases W with ⟨ar, cm, conj, cv, sl, sc, ct, sa, ss, ll, _, _, _, _, mi, mx, _, _, _⟩
  unfold r10_Text_g at h
  skip
  cbv
  refine L_for hE lay_ok 0 (fun g : ByteArray × Int × Nat => [(3, fS g.1), (4, fI .i64 g.2.1)]) (fun g => []) (fun g => r10_Text_l1 N p0 g.2.2 g.1 g.2.1 = some r) (fun g => g.2.2) (_, _, N) h ?_ ?_
  · (cbv; (try simp only [e_rnil hR]); repeat' (first | exact trivial | exact rfl | exact Or.inr trivial | apply And.intro))
  rintro ⟨v1, v2, m1⟩ h Q1 hN1 hT1 hX1
  have h : r10_Text_l1 N p0 m1 v1 v2 = some r := h
  cases m1 with
  | zero => exact nomatch (show (none : Option _) = some _ from h)
  | succ m1 =>
  rw [r10_Text_l1] at h
  rw [q_ar hE, q_cm hE, q_sl hE, q_ct hE, q_sa hE, q_ss hE] at h
  cbv
  refine L_if hE h (fun h => ?_) (fun h => ?_) <;> cbv
  · refine L_call hE hR h (fun _ e => r10_Unit_w e) rfl rfl fun a3 h => ?_; cbv
    refine L_rgJ hE lay_ok h 0 (fun j1 : Bool => [(22, fB j1)]) (fun j1 => []) (fun j1 h => ?_) (fun j1 h => ?_) <;> cbv
    · refine L_sin hE h fun h => ?_
      refine L_if hE h (fun h => ?_) (fun h => ?_) <;> cbv
      · cases h; (cbv; (try simp only [e_rnil hR]); repeat' (first | exact trivial | exact rfl | exact Or.inr trivial | apply And.intro))
      refine L_sin hE h fun h => ?_
      cases h; (cbv; (try simp only [e_rnil hR]); repeat' (first | exact trivial | exact rfl | exact Or.inr trivial | apply And.intro))
    refine L_cdJ hE lay_ok h 0 (fun j3 : ByteArray => [(3, fS j3)]) (fun j3 => []) (fun j3 h => ?_) (fun j3 h => ?_) <;> cbv
    · refine L_if hE h (fun h => ?_) (fun h => ?_) <;> cbv
      · refine L_ct hE h fun h => ?_
        refine L_ssin hE h fun h => ?_
        refine L_ct hE h fun h => ?_
        cases h; (cbv; (try simp only [e_rnil hR]); repeat' (first | exact trivial | exact rfl | exact Or.inr trivial | apply And.intro))
      refine L_call hE hR h (fun _ e => r10_safe_w e) rfl rfl fun a4 h => ?_; cbv
      refine L_cdJ hE lay_ok h 0 (fun j2 : ByteArray => [(3, fS j2)]) (fun j2 => []) (fun j2 h => ?_) (fun j2 h => ?_) <;> cbv
      · refine L_if hE h (fun h => ?_) (fun h => ?_) <;> cbv
        · refine L_ssin hE h fun h => ?_
          refine L_ct hE h fun h => ?_
          cases h; (cbv; (try simp only [e_rnil hR]); repeat' (first | exact trivial | exact rfl | exact Or.inr trivial | apply And.intro))
        refine L_ct hE h fun h => ?_
        refine L_ssin hE h fun h => ?_
        refine L_call hE hR h (fun _ e => r02_Hex_w e) rfl rfl fun a5 h => ?_; cbv
        refine L_ct hE h fun h => ?_
        cases h; (cbv; (try simp only [e_rnil hR]); repeat' (first | exact trivial | exact rfl | exact Or.inr trivial | apply And.intro))
      cases h; (cbv; (try simp only [e_rnil hR]); repeat' (first | exact trivial | exact rfl | exact Or.inr trivial | apply And.intro))
    refine hN1 _ (_, _, m1) [] h (Nat.lt_succ_self _) trivial ?_; (cbv; (try simp only [e_rnil hR]); repeat' (first | exact trivial | exact rfl | exact Or.inr trivial | apply And.intro))
  refine hX1 _ _ ?_; cbv
  refine L_ct hE h fun h => ?_
  exact And.left (hQ _ _ _ rfl rfl (by cases h; subst hR; rfl))
theorem r22_Text_w {N : Nat} {p0 : GMatcher} {r : ByteArray} (h : r22_Text_g N p0 = some r) : FunS Tryz.prog 16 [.agg [fS p0.Name, fI .i64 p0.Op, fS p0.Value]] (r22_Text_s rw) r := by
  refine fun_w lay_ok Tryz.call16 Tryz.func16 rfl ?_
  intro A W E Q R hE hR hf hQ; rcases W with ⟨ar, cm, conj, cv, sl, sc, ct, sa, ss, ll, _, _, _, _, mi, mx, _, _, _⟩
  unfold r22_Text_g at h
  rw [q_ct hE] at h
  cbv
  refine L_whole hE lay_ok (by kernel_rfl) (by kernel_rfl) ?_; cbv
  refine L_pcall hE hR h (fun _ e => r22_Sign_w e) rfl rfl fun a1 h => ?_; cbv
  refine L_ct hE h fun h => ?_
  refine L_pcall hE hR h (fun _ e => r10_Text_w e) rfl rfl fun a2 h => ?_; cbv
  refine L_ct hE h fun h => ?_
  exact And.left (hQ _ _ _ rfl rfl (by cases h; subst hR; rfl))
theorem cmp_Or_40_w {N : Nat} {p0 : List Int} {r : Int} (h : cmp_Or_40_g N p0 = some r) : FunS Tryz.prog 40 [.t (.slc (rw _ (cI .i64) p0))] (cmp_Or_40_s rw) r := by
  refine fun_w lay_ok Tryz.call40 Tryz.func40 rfl ?_
  intro A W E Q R hE hR hf hQ; rcases W with ⟨ar, cm, conj, cv, sl, sc, ct, sa, ss, ll, _, _, _, _, mi, mx, _, _, _⟩
  rw [← hR]
  unfold cmp_Or_40_g at h
  skip
  cbv
  refine L_for hE lay_ok 0 (fun g : Int × Nat => [(2, fI .i64 0), (8, fI .i64 g.1)]) (fun g => []) (fun g => cmp_Or_40_l1 p0 g.2 g.1 = some r) (fun g => g.2) (_, N) h ?_ ?_
  · (cbv; (try simp only [e_rnil hR]); repeat' (first | exact trivial | exact rfl | exact Or.inr trivial | apply And.intro))
  rintro ⟨v1, m1⟩ h Q1 hN1 hT1 hX1
  have h : cmp_Or_40_l1 p0 m1 v1 = some r := h
  cases m1 with
  | zero => exact nomatch (show (none : Option _) = some _ from h)
  | succ m1 =>
  rw [cmp_Or_40_l1] at h
  rw [q_ar hE, q_cm hE, q_ll hE, ← hR] at h
  cbv
  refine L_if hE h (fun h => ?_) (fun h => ?_) <;> cbv
  · refine L_row hE hR h fun r2 h => ?_; cbv
    refine L_if hE h (fun h => ?_) (fun h => ?_) <;> cbv
    · refine hT1 _ ?_
      exact And.left (hQ _ _ _ rfl rfl (by cases h; subst hR; rfl))
    refine hN1 _ (_, m1) [] h (Nat.lt_succ_self _) trivial ?_; (cbv; (try simp only [e_rnil hR]); repeat' (first | exact trivial | exact rfl | exact Or.inr trivial | apply And.intro))
  refine hX1 _ _ ?_; cbv
  exact And.left (hQ _ _ _ rfl rfl (by cases h; subst hR; rfl))
theorem cmp_isNaN_69_w {p0 : ByteArray} {r : Bool} (h : cmp_isNaN_69_g p0 = some r) : FunS Tryz.prog 69 [fS p0] (cmp_isNaN_69_s rw) r := by
  refine fun_w lay_ok Tryz.call69 Tryz.func69 rfl ?_
  intro A W E Q R hE hR hf hQ; rcases W with ⟨ar, cm, conj, cv, sl, sc, ct, sa, ss, ll, _, _, _, _, mi, mx, _, _, _⟩
  unfold cmp_isNaN_69_g at h
  rw [q_sc hE] at h
  cbv
  exact And.left (hQ _ _ _ rfl rfl (by cases h; subst hR; rfl))
end Gn
end Go.Proofs.YtampjnpnekekiaaGreatDoor
namespace Go.Proofs.YtampjnpnekekiaaGreatDoor
open Go Go.RowKit
set_option linter.unusedVariables false
set_option linter.unusedSimpArgs false
set_option maxRecDepth 100000
set_option maxHeartbeats 4000000
open Ab Sh
namespace Gn
theorem cmp_Compare_41_w {p0 : ByteArray} {p1 : ByteArray} {r : Int} (h : cmp_Compare_41_g p0 p1 = some r) : FunS Tryz.prog 41 [fS p0, fS p1] (cmp_Compare_41_s rw) r := by
  refine fun_w lay_ok Tryz.call41 Tryz.func41 rfl ?_
  intro A W E Q R hE hR hf hQ; rcases W with ⟨ar, cm, conj, cv, sl, sc, ct, sa, ss, ll, _, _, _, _, mi, mx, _, _, _⟩
  unfold cmp_Compare_41_g at h
  rw [q_sc hE] at h
  cbv
  refine L_call hE hR h (fun _ e => cmp_isNaN_69_w e) rfl rfl fun a1 h => ?_; cbv
  refine L_call hE hR h (fun _ e => cmp_isNaN_69_w e) rfl rfl fun a2 h => ?_; cbv
  refine L_if hE h (fun h => ?_) (fun h => ?_) <;> cbv
  · refine L_if hE h (fun h => ?_) (fun h => ?_) <;> cbv
    · exact And.left (hQ _ _ _ rfl rfl (by cases h; subst hR; rfl))
    exact And.left (hQ _ _ _ rfl rfl (by cases h; subst hR; rfl))
  refine L_if hE h (fun h => ?_) (fun h => ?_) <;> cbv
  · exact And.left (hQ _ _ _ rfl rfl (by cases h; subst hR; rfl))
  refine L_if hE h (fun h => ?_) (fun h => ?_) <;> cbv
  · exact And.left (hQ _ _ _ rfl rfl (by cases h; subst hR; rfl))
  refine L_if hE h (fun h => ?_) (fun h => ?_) <;> cbv
  · exact And.left (hQ _ _ _ rfl rfl (by cases h; subst hR; rfl))
  exact And.left (hQ _ _ _ rfl rfl (by cases h; subst hR; rfl))
theorem cmp_isNaN_70_w {p0 : Int} {r : Bool} (h : cmp_isNaN_70_g p0 = some r) : FunS Tryz.prog 70 [fI .i64 p0] (cmp_isNaN_70_s rw) r := by
  refine fun_w lay_ok Tryz.call70 Tryz.func70 rfl ?_
  intro A W E Q R hE hR hf hQ; rcases W with ⟨ar, cm, conj, cv, sl, sc, ct, sa, ss, ll, _, _, _, _, mi, mx, _, _, _⟩
  unfold cmp_isNaN_70_g at h
  rw [q_cm hE] at h
  cbv
  exact And.left (hQ _ _ _ rfl rfl (by cases h; subst hR; rfl))
theorem cmp_Compare_42_w {p0 : Int} {p1 : Int} {r : Int} (h : cmp_Compare_42_g p0 p1 = some r) : FunS Tryz.prog 42 [fI .i64 p0, fI .i64 p1] (cmp_Compare_42_s rw) r := by
  refine fun_w lay_ok Tryz.call42 Tryz.func42 rfl ?_
  intro A W E Q R hE hR hf hQ; rcases W with ⟨ar, cm, conj, cv, sl, sc, ct, sa, ss, ll, _, _, _, _, mi, mx, _, _, _⟩
  unfold cmp_Compare_42_g at h
  rw [q_cm hE] at h
  cbv
  refine L_call hE hR h (fun _ e => cmp_isNaN_70_w e) rfl rfl fun a1 h => ?_; cbv
  refine L_call hE hR h (fun _ e => cmp_isNaN_70_w e) rfl rfl fun a2 h => ?_; cbv
  refine L_if hE h (fun h => ?_) (fun h => ?_) <;> cbv
  · refine L_if hE h (fun h => ?_) (fun h => ?_) <;> cbv
    · exact And.left (hQ _ _ _ rfl rfl (by cases h; subst hR; rfl))
    exact And.left (hQ _ _ _ rfl rfl (by cases h; subst hR; rfl))
  refine L_if hE h (fun h => ?_) (fun h => ?_) <;> cbv
  · exact And.left (hQ _ _ _ rfl rfl (by cases h; subst hR; rfl))
  refine L_if hE h (fun h => ?_) (fun h => ?_) <;> cbv
  · exact And.left (hQ _ _ _ rfl rfl (by cases h; subst hR; rfl))
  refine L_if hE h (fun h => ?_) (fun h => ?_) <;> cbv
  · exact And.left (hQ _ _ _ rfl rfl (by cases h; subst hR; rfl))
  exact And.left (hQ _ _ _ rfl rfl (by cases h; subst hR; rfl))
theorem matcher_Compare_w {N : Nat} {p0 : GMatcher} {p1 : GMatcher} {r : Int} (h : matcher_Compare_g N p0 p1 = some r) : FunS Tryz.prog 18 [.agg [fS p0.Name, fI .i64 p0.Op, fS p0.Value], .agg [fS p1.Name, fI .i64 p1.Op, fS p1.Value]] (matcher_Compare_s rw) r := by
  refine fun_w lay_ok Tryz.call18 Tryz.func18 rfl ?_
  intro A W E Q R hE hR hf hQ; rcases W with ⟨ar, cm, conj, cv, sl, sc, ct, sa, ss, ll, _, _, _, _, mi, mx, _, _, _⟩
  unfold matcher_Compare_g at h
  skip
  cbv
  refine L_tail hE lay_ok (by kernel_rfl) 16 (by kernel_rfl) ?_; cbv
  refine L_pcall hE hR h (fun _ e => cmp_Compare_41_w e) rfl rfl fun a1 h => ?_; cbv
  refine L_pcall hE hR h (fun _ e => cmp_Compare_42_w e) rfl rfl fun a2 h => ?_; cbv
  refine L_pcall hE hR h (fun _ e => cmp_Compare_41_w e) rfl rfl fun a3 h => ?_; cbv
  refine L_bare hE hR h (fun _ e => cmp_Or_40_w e) rfl (by subst hR; rfl) (fun _ => rfl) fun a4 h => ?_; cbv
  exact And.left (hQ _ _ _ rfl rfl (by cases h; subst hR; rfl))
theorem r02_Compare_w {N : Nat} {p0 : ByteArray} {p1 : ByteArray} {r : Int} (h : r02_Compare_g N p0 p1 = some r) : FunS Tryz.prog 43 [fS p0, fS p1] (r02_Compare_s rw) r := by
  refine fun_w lay_ok Tryz.call43 Tryz.func43 rfl ?_
  intro A W E Q R hE hR hf hQ; rcases W with ⟨ar, cm, conj, cv, sl, sc, ct, sa, ss, ll, _, _, _, _, mi, mx, _, _, _⟩
  unfold r02_Compare_g at h
  skip
  cbv
  refine L_for hE lay_ok 0 (fun g : Int × Nat => [(4, fI .i64 0), (5, fI .i64 g.1)]) (fun g => []) (fun g => r02_Compare_l1 p0 p1 g.2 g.1 = some r) (fun g => g.2) (_, N) h ?_ ?_
  · (cbv; (try simp only [e_rnil hR]); repeat' (first | exact trivial | exact rfl | exact Or.inr trivial | apply And.intro))
  rintro ⟨v1, m1⟩ h Q1 hN1 hT1 hX1
  have h : r02_Compare_l1 p0 p1 m1 v1 = some r := h
  cases m1 with
  | zero => exact nomatch (show (none : Option _) = some _ from h)
  | succ m1 =>
  rw [r02_Compare_l1] at h
  rw [q_ar hE, q_cm hE, q_sl hE, q_sa hE] at h
  cbv
  refine L_rgJ hE lay_ok h 0 (fun j2 : Bool => [(15, fB j2)]) (fun j2 => []) (fun j2 h => ?_) (fun j2 h => ?_) <;> cbv
  · refine L_if hE h (fun h => ?_) (fun h => ?_) <;> cbv
    · cases h; (cbv; (try simp only [e_rnil hR]); repeat' (first | exact trivial | exact rfl | exact Or.inr trivial | apply And.intro))
    cases h; (cbv; (try simp only [e_rnil hR]); repeat' (first | exact trivial | exact rfl | exact Or.inr trivial | apply And.intro))
  refine L_if hE h (fun h => ?_) (fun h => ?_) <;> cbv
  · refine L_whole hE lay_ok (by kernel_rfl) (by kernel_rfl) ?_; cbv
    refine L_sin hE h fun h => ?_
    refine L_sin hE h fun h => ?_
    refine L_if hE h (fun h => ?_) (fun h => ?_) <;> cbv
    · refine hT1 _ ?_
      exact And.left (hQ _ _ _ rfl rfl (by cases h; subst hR; rfl))
    refine L_whole hE lay_ok (by kernel_rfl) (by kernel_rfl) ?_; cbv
    refine L_sin hE h fun h => ?_
    refine L_sin hE h fun h => ?_
    refine L_if hE h (fun h => ?_) (fun h => ?_) <;> cbv
    · refine hT1 _ ?_
      exact And.left (hQ _ _ _ rfl rfl (by cases h; subst hR; rfl))
    refine hN1 _ (_, m1) [] h (Nat.lt_succ_self _) trivial ?_; (cbv; (try simp only [e_rnil hR]); repeat' (first | exact trivial | exact rfl | exact Or.inr trivial | apply And.intro))
  refine hX1 _ _ ?_; cbv
  refine L_if hE h (fun h => ?_) (fun h => ?_) <;> cbv
  · exact And.left (hQ _ _ _ rfl rfl (by cases h; subst hR; rfl))
  refine L_if hE h (fun h => ?_) (fun h => ?_) <;> cbv
  · exact And.left (hQ _ _ _ rfl rfl (by cases h; subst hR; rfl))
  exact And.left (hQ _ _ _ rfl rfl (by cases h; subst hR; rfl))
end Gn
end Go.Proofs.YtampjnpnekekiaaGreatDoor
namespace Go.Proofs.YtampjnpnekekiaaGreatDoor
open Go Go.RowKit
set_option linter.unusedVariables false
set_option linter.unusedSimpArgs false
set_option maxRecDepth 100000
set_option maxHeartbeats 4000000
open Ab Sh
namespace Gn
theorem r22_Compare_w {N : Nat} {p0 : GMatcher} {p1 : GMatcher} {r : Int} (h : r22_Compare_g N p0 p1 = some r) : FunS Tryz.prog 19 [.agg [fS p0.Name, fI .i64 p0.Op, fS p0.Value], .agg [fS p1.Name, fI .i64 p1.Op, fS p1.Value]] (r22_Compare_s rw) r := by
  refine fun_w lay_ok Tryz.call19 Tryz.func19 rfl ?_
  intro A W E Q R hE hR hf hQ; rcases W with ⟨ar, cm, conj, cv, sl, sc, ct, sa, ss, ll, _, _, _, _, mi, mx, _, _, _⟩
  unfold r22_Compare_g at h
  rw [q_cm hE] at h
  cbv
  refine L_call hE hR h (fun _ e => r02_Compare_w e) rfl rfl fun a1 h => ?_; cbv
  refine L_if hE h (fun h => ?_) (fun h => ?_) <;> cbv
  · exact And.left (hQ _ _ _ rfl rfl (by cases h; subst hR; rfl))
  refine L_if hE h (fun h => ?_) (fun h => ?_) <;> cbv
  · exact And.left (hQ _ _ _ rfl rfl (by cases h; subst hR; rfl))
  refine L_if hE h (fun h => ?_) (fun h => ?_) <;> cbv
  · exact And.left (hQ _ _ _ rfl rfl (by cases h; subst hR; rfl))
  refine L_call hE hR h (fun _ e => r02_Compare_w e) rfl rfl fun a2 h => ?_; cbv
  exact And.left (hQ _ _ _ rfl rfl (by cases h; subst hR; rfl))
theorem l22_MatcherTexts_w {N : Nat} {p0 : GMatcher} {p1 : GMatcher} {p2 : Int} {r : Bool} (h : l22_MatcherTexts_g N p0 p1 p2 = some r) : FunS Tryz.prog 5 [.agg [fS p0.Name, fI .i64 p0.Op, fS p0.Value], .agg [fS p1.Name, fI .i64 p1.Op, fS p1.Value], fI .i64 p2] (l22_MatcherTexts_s rw) r := by
  refine fun_w lay_ok Tryz.call5 Tryz.func5 rfl ?_
  intro A W E Q R hE hR hf hQ; rcases W with ⟨ar, cm, conj, cv, sl, sc, ct, sa, ss, ll, _, _, _, _, mi, mx, _, _, _⟩
  unfold l22_MatcherTexts_g at h
  rw [q_cm hE, q_conj hE, q_sl hE, q_sc hE] at h
  cbv
  refine L_rgJ hE lay_ok h 2 (fun j1 : Bool => [(35, fB j1)]) (fun j1 => []) (fun j1 h => ?_) (fun j1 h => ?_) <;> cbv
  · refine L_if hE h (fun h => ?_) (fun h => ?_) <;> cbv
    · cases h; (cbv; (try simp only [e_rnil hR]); repeat' (first | exact trivial | exact rfl | exact Or.inr trivial | apply And.intro))
    refine L_if hE h (fun h => ?_) (fun h => ?_) <;> cbv
    · cases h; (cbv; (try simp only [e_rnil hR]); repeat' (first | exact trivial | exact rfl | exact Or.inr trivial | apply And.intro))
    refine L_if hE h (fun h => ?_) (fun h => ?_) <;> cbv
    · cases h; (cbv; (try simp only [e_rnil hR]); repeat' (first | exact trivial | exact rfl | exact Or.inr trivial | apply And.intro))
    cases h; (cbv; (try simp only [e_rnil hR]); repeat' (first | exact trivial | exact rfl | exact Or.inr trivial | apply And.intro))
  refine L_if hE h (fun h => ?_) (fun h => ?_) <;> cbv
  · refine L_call hE hR h (fun _ e => l22_works_w e) rfl rfl fun a1 h => ?_; cbv
    exact And.left (hQ _ _ _ rfl rfl (by cases h; subst hR; rfl))
  refine L_call hE hR h (fun _ e => r22_Text_w e) rfl rfl fun a2 h => ?_; cbv
  refine L_call hE hR h (fun _ e => matcher_Take_w e) rfl rfl fun a3 h => ?_; cbv
  refine L_call hE hR h (fun _ e => r22_Take_w e) rfl rfl fun a4 h => ?_; cbv
  refine L_whole hE lay_ok (by kernel_rfl) (by kernel_rfl) ?_; cbv
  refine L_pcall hE hR h (fun _ e => matcher_Text_w e) rfl rfl fun a5 h => ?_; cbv
  refine L_if hE h (fun h => ?_) (fun h => ?_) <;> cbv
  · refine L_if hE h (fun h => ?_) (fun h => ?_) <;> cbv
    · refine L_if hE h (fun h => ?_) (fun h => ?_) <;> cbv
      · refine L_pcall hE hR h (fun _ e => matcher_Compare_w e) rfl rfl fun a6 h => ?_; cbv
        refine L_if hE h (fun h => ?_) (fun h => ?_) <;> cbv
        · refine L_if hE h (fun h => ?_) (fun h => ?_) <;> cbv
          · refine L_if hE h (fun h => ?_) (fun h => ?_) <;> cbv
            · refine L_pcall hE hR h (fun _ e => r22_Compare_w e) rfl rfl fun a7 h => ?_; cbv
              refine L_if hE h (fun h => ?_) (fun h => ?_) <;> cbv
              · refine L_if hE h (fun h => ?_) (fun h => ?_) <;> cbv
                · refine L_if hE h (fun h => ?_) (fun h => ?_) <;> cbv
                  · refine L_if hE h (fun h => ?_) (fun h => ?_) <;> cbv
                    · refine L_if hE h (fun h => ?_) (fun h => ?_) <;> cbv
                      · refine L_pcall hE hR h (fun _ e => matcher_Compare_w e) rfl rfl fun a8 h => ?_; cbv
                        refine L_if hE h (fun h => ?_) (fun h => ?_) <;> cbv
                        · refine L_if hE h (fun h => ?_) (fun h => ?_) <;> cbv
                          · refine L_if hE h (fun h => ?_) (fun h => ?_) <;> cbv
                            · refine L_if hE h (fun h => ?_) (fun h => ?_) <;> cbv
                              · refine L_if hE h (fun h => ?_) (fun h => ?_) <;> cbv
                                · refine L_if hE h (fun h => ?_) (fun h => ?_) <;> cbv
                                  · refine L_if hE h (fun h => ?_) (fun h => ?_) <;> cbv
                                    · refine L_if hE h (fun h => ?_) (fun h => ?_) <;> cbv
                                      · refine L_if hE h (fun h => ?_) (fun h => ?_) <;> cbv
                                        · refine L_if hE h (fun h => ?_) (fun h => ?_) <;> cbv
                                          · refine L_if hE h (fun h => ?_) (fun h => ?_) <;> cbv
                                            · refine L_if hE h (fun h => ?_) (fun h => ?_) <;> cbv
                                              · refine L_if hE h (fun h => ?_) (fun h => ?_) <;> cbv
                                                · refine L_if hE h (fun h => ?_) (fun h => ?_) <;> cbv
                                                  · refine L_if hE h (fun h => ?_) (fun h => ?_) <;> cbv
                                                    · refine L_pcall hE hR h (fun _ e => l22_works_w e) rfl rfl fun a9 h => ?_; cbv
                                                      refine L_if hE h (fun h => ?_) (fun h => ?_) <;> cbv
                                                      · exact And.left (hQ _ _ _ rfl rfl (by cases h; subst hR; rfl))
                                                      exact nomatch h
                                                    refine L_if hE h (fun h => ?_) (fun h => ?_) <;> cbv
                                                    · exact nomatch h
                                                    exact And.left (hQ _ _ _ rfl rfl (by cases h; subst hR; rfl))
                                                  exact nomatch h
                                                exact nomatch h
                                              exact nomatch h
                                            refine L_if hE h (fun h => ?_) (fun h => ?_) <;> cbv
                                            · exact nomatch h
                                            refine L_if hE h (fun h => ?_) (fun h => ?_) <;> cbv
                                            · exact nomatch h
                                            refine L_if hE h (fun h => ?_) (fun h => ?_) <;> cbv
                                            · exact nomatch h
                                            refine L_f hE ?_; cbv
                                            refine L_f hE ?_; cbv
                                            exact And.left (hQ _ _ _ rfl rfl (by cases h; subst hR; rfl))
                                          exact nomatch h
                                        exact nomatch h
                                      exact nomatch h
                                    refine L_if hE h (fun h => ?_) (fun h => ?_) <;> cbv
                                    · exact nomatch h
                                    refine L_if hE h (fun h => ?_) (fun h => ?_) <;> cbv
                                    · exact nomatch h
                                    refine L_if hE h (fun h => ?_) (fun h => ?_) <;> cbv
                                    · exact nomatch h
                                    refine L_f hE ?_; cbv
                                    refine L_f hE ?_; cbv
                                    refine L_f hE ?_; cbv
                                    refine L_f hE ?_; cbv
                                    refine L_f hE ?_; cbv
                                    refine L_f hE ?_; cbv
                                    exact And.left (hQ _ _ _ rfl rfl (by cases h; subst hR; rfl))
                                  exact nomatch h
                                exact nomatch h
                              exact nomatch h
                            refine L_if hE h (fun h => ?_) (fun h => ?_) <;> cbv
                            · exact nomatch h
                            refine L_if hE h (fun h => ?_) (fun h => ?_) <;> cbv
                            · exact nomatch h
                            refine L_if hE h (fun h => ?_) (fun h => ?_) <;> cbv
                            · exact nomatch h
                            refine L_f hE ?_; cbv
                            refine L_f hE ?_; cbv
                            refine L_f hE ?_; cbv
                            refine L_f hE ?_; cbv
                            refine L_f hE ?_; cbv
                            refine L_f hE ?_; cbv
                            refine L_f hE ?_; cbv
                            refine L_f hE ?_; cbv
                            refine L_f hE ?_; cbv
                            refine L_f hE ?_; cbv
                            exact And.left (hQ _ _ _ rfl rfl (by cases h; subst hR; rfl))
                          exact nomatch h
                        exact nomatch h
                      exact nomatch h
                    exact nomatch h
                  refine L_if hE h (fun h => ?_) (fun h => ?_) <;> cbv
                  · exact nomatch h
                  refine L_if hE h (fun h => ?_) (fun h => ?_) <;> cbv
                  · exact nomatch h
                  refine L_if hE h (fun h => ?_) (fun h => ?_) <;> cbv
                  · exact nomatch h
                  refine L_if hE h (fun h => ?_) (fun h => ?_) <;> cbv
                  · exact nomatch h
                  refine L_f hE ?_; cbv
                  refine L_f hE ?_; cbv
                  refine L_f hE ?_; cbv
                  refine L_f hE ?_; cbv
                  refine L_f hE ?_; cbv
                  refine L_f hE ?_; cbv
                  refine L_f hE ?_; cbv
                  refine L_f hE ?_; cbv
                  refine L_f hE ?_; cbv
                  refine L_f hE ?_; cbv
                  refine L_f hE ?_; cbv
                  refine L_f hE ?_; cbv
                  refine L_f hE ?_; cbv
                  refine L_f hE ?_; cbv
                  exact And.left (hQ _ _ _ rfl rfl (by cases h; subst hR; rfl))
                exact nomatch h
              exact nomatch h
            exact nomatch h
          exact nomatch h
        exact nomatch h
      exact nomatch h
    exact nomatch h
  refine L_if hE h (fun h => ?_) (fun h => ?_) <;> cbv
  · exact nomatch h
  refine L_if hE h (fun h => ?_) (fun h => ?_) <;> cbv
  · exact nomatch h
  refine L_if hE h (fun h => ?_) (fun h => ?_) <;> cbv
  · exact nomatch h
  refine L_if hE h (fun h => ?_) (fun h => ?_) <;> cbv
  · exact nomatch h
  refine L_if hE h (fun h => ?_) (fun h => ?_) <;> cbv
  · exact nomatch h
  refine L_if hE h (fun h => ?_) (fun h => ?_) <;> cbv
  · exact nomatch h
  refine L_if hE h (fun h => ?_) (fun h => ?_) <;> cbv
  · exact nomatch h
  refine L_f hE ?_; cbv
  refine L_f hE ?_; cbv
  refine L_f hE ?_; cbv
  refine L_f hE ?_; cbv
  refine L_f hE ?_; cbv
  refine L_f hE ?_; cbv
  refine L_f hE ?_; cbv
  refine L_f hE ?_; cbv
  refine L_f hE ?_; cbv
  refine L_f hE ?_; cbv
  refine L_f hE ?_; cbv
  refine L_f hE ?_; cbv
  refine L_f hE ?_; cbv
  refine L_f hE ?_; cbv
  refine L_f hE ?_; cbv
  refine L_f hE ?_; cbv
  refine L_f hE ?_; cbv
  refine L_f hE ?_; cbv
  refine L_f hE ?_; cbv
  exact And.left (hQ _ _ _ rfl rfl (by cases h; subst hR; rfl))
end Gn
end Go.Proofs.YtampjnpnekekiaaGreatDoor
namespace Go.Proofs.YtampjnpnekekiaaGreatDoor
open Go Go.RowKit Go.ChangeShapes Go.WideShapes
theorem addr_off (b o j : Nat) : (⟨b, o, none⟩ : Addr).add j = ⟨b, o + j, none⟩ := by simp [Addr.add]
def Fits (A : Option Addr) (n cap : Nat) : Prop := n ≤ cap ∧ (A = none → cap = 0)
theorem Fits.none_ : Fits none 0 0 := ⟨Nat.le_refl _, fun _ => rfl⟩
section
variable {α : Type}
def RowsAt (n : Nat) (R : α → List Value → Prop) (G : Nat → Prop) (w : World) (A : Option Addr) (xs : List α) : Prop :=
  0 < xs.length → ∃ b o, A = some ⟨b, o, none⟩ ∧ G b ∧ ∀ (k : Nat) (h : k < xs.length), ∃ cs, R xs[k] cs ∧ ∀ j u, cs[j]? = some u → w.cell? ⟨b, o + k * n + j, none⟩ = some u
def Kept (G : Nat → Prop) (w w' : World) : Prop := ∀ b, G b → w'.heap[b]? = w.heap[b]?
theorem Kept.cell {G : Nat → Prop} {w w' : World} (h : Kept G w w') {b : Nat} (hb : G b) (o : Nat) : w'.cell? ⟨b, o, none⟩ = w.cell? ⟨b, o, none⟩ := World.cell?_of_block (h b hb)
theorem rows_nil {n : Nat} {R : α → List Value → Prop} {G : Nat → Prop} {w : World} {A : Option Addr} : RowsAt n R G w A ([] : List α) := fun h => absurd h (by simp)
end
section
variable {H : Type} {enc : TypeId × Value → H} {P : Program} {W : World} {sp : Nat → Bool} {held : Bool}
theorem cell_place {a : Addr} {u : Value} (h : W.cell? a = some u) : a = ⟨a.block, a.off, none⟩ ∧ a.block < W.heap.size := by
  unfold World.cell? at h
  cases hb : W.heap[a.block]? with
  | none => rw [hb] at h; cases h
  | some o =>
    rw [hb] at h
    refine ⟨?_, (Array.getElem?_eq_some_iff.1 hb).1⟩
    cases o with
    | cells c t fr =>
      dsimp only at h
      cases hs : a.spot with
      | none => cases a; simp at hs; subst hs; rfl
      | some x => rw [hs] at h; simp at h
    | _ => cases h
theorem rows_open {α : Type} {T e : TypeId} {n : Nat} {R : α → List Value → Prop} (hT : P.underlying T = some (.slice e)) (hn : P.cellsOf e = n) (hn0 : 0 < n)
    (hR : ∀ (fuel : Nat) (cs : List Value) (x : DataW H × List MemPlace), DataW.trod enc P W 0 sp held fuel e cs = some x → ∃ a, R a cs ∧ cs.length = n) {fuel : Nat} {v : Value} {x : DataW H × List MemPlace}
    (h : DataW.trod enc P W 0 sp held fuel T [v] = some x) : ∃ (A : Option Addr) (xs : List α) (cap : Nat), v = .slice A xs.length cap ∧ Fits A xs.length cap ∧ xs.length ≤ maxLen ∧ RowsAt n R (fun b => b < W.heap.size) W A xs := by
  rcases DataW.trod_slice hT h with ⟨e5, -⟩ | ⟨a, len, cap, elems, rest, m, rfl, e5, -, -, hlc, hcm, hel, hat, -, -⟩
  · injection e5 with e5 _
    exact ⟨none, [], 0, e5, Fits.none_, Nat.zero_le _, rows_nil⟩
  · injection e5 with e5 _
    rw [hn] at hat
    have key : ∀ i, i ≤ len → ∃ (xs : List α), xs.length = i ∧ ∀ (k : Nat) (hk : k < xs.length), ∃ cs, R xs[k] cs ∧ cs.length = n ∧ ∀ j u, cs[j]? = some u → W.cell? (a.add (k * n + j)) = some u := by
      intro i
      induction i with
      | zero => intro _; exact ⟨[], rfl, fun k hk => absurd hk (by simp)⟩
      | succ i ih =>
        intro hi
        obtain ⟨xs, hl, hc⟩ := ih (by omega)
        have h1 := hat i (by omega)
        rw [List.getElem?_eq_getElem (by omega)] at h1
        obtain ⟨cs', h2, h3⟩ := Option.bind_eq_some_iff.1 h1
        obtain ⟨y, hy, hyl⟩ := hR m cs' _ h3
        obtain ⟨_, _, h4⟩ := World.cells?_some h2
        refine ⟨xs ++ [y], by rw [List.length_append, hl]; rfl, fun k hk => ?_⟩
        rcases Nat.lt_or_ge k xs.length with hlt | hge
        · obtain ⟨cs, h5, h6, h7⟩ := hc k hlt
          refine ⟨cs, ?_, h6, h7⟩
          rw [List.getElem_append_left hlt]
          exact h5
        · have hkl : k < xs.length + 1 := by simpa using hk
          obtain rfl : k = xs.length := by omega
          refine ⟨cs', ?_, hyl, fun j u hj => ?_⟩
          · rw [List.getElem_append_right (Nat.le_refl _)]
            simpa using hy
          · have hj' : j < n := by rw [← hyl]; exact (List.getElem?_eq_some_iff.1 hj).1
            have h8 := h4 j hj'
            rw [hj, Go.Deep.add_add, ← hl] at h8
            exact h8
    obtain ⟨xs, hl, hc⟩ := key len (Nat.le_refl _)
    subst hl
    refine ⟨some a, xs, cap, e5, ⟨hlc, fun h => by cases h⟩, Nat.le_trans hlc hcm, fun hpos => ?_⟩
    obtain ⟨cs0, _, hl0, h0⟩ := hc 0 hpos
    have h1 := h0 0 _ (List.getElem?_eq_getElem (by omega))
    have ha0 : a.add (0 * n + 0) = a := by unfold Addr.add; simp
    rw [ha0] at h1
    obtain ⟨h2, h3⟩ := cell_place h1
    refine ⟨a.block, a.off, congrArg some h2, h3, fun k hk => ?_⟩
    obtain ⟨cs, h4, _, h5⟩ := hc k hk
    refine ⟨cs, h4, fun j u hj => ?_⟩
    have h6 := h5 j u hj
    rw [h2, addr_off, ← Nat.add_assoc] at h6
    exact h6
end
end Go.Proofs.YtampjnpnekekiaaGreatDoor
