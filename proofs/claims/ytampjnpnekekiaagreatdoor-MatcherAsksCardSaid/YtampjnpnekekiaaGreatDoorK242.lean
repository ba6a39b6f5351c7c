/- The bodies do what the plain functions tell. -/
import Derived.Test.YtampjnpnekekiaaGreatDoorK231
import Derived.Test.YtampjnpnekekiaaGreatDoorK241
import Derived.Test.YtampjnpnekekiaaGreatDoorK240
namespace Go.Proofs.YtampjnpnekekiaaGreatDoor
open Go Go.RowKit
set_option linter.unusedVariables false
set_option linter.unusedSimpArgs false
set_option maxRecDepth 100000
set_option maxHeartbeats 4000000
open Ab Sh
namespace Gn
theorem r22_bad_w {p0 : Int} {p1 : Int} {r : GMatcher × Int × GFault} (h : r22_bad_g p0 p1 = some r) : FunS Tryz.prog 32 [fI .i64 p0, fI .i64 p1] (r22_bad_s rw) r := by
  refine fun_w lay_ok Tryz.call32 Tryz.func32 rfl ?_
  intro A W E Q R hE hR hf hQ; rcases W with ⟨ar, cm, conj, cv, sl, sc, ct, sa, ss, ll, _, _, _, _, mi, mx, _, _, _⟩
  unfold r22_bad_g at h
  skip
  cbv
  exact And.left (hQ _ _ _ rfl rfl (by cases h; subst hR; rfl))
theorem r09_Signs_w {N : Nat} {p0 : ByteArray} {p1 : Int} {r : Int} (h : r09_Signs_g N p0 p1 = some r) : FunS Tryz.prog 33 [fS p0, fI .i64 p1] (r09_Signs_s rw) r := by
  refine fun_w lay_ok Tryz.call33 Tryz.func33 rfl ?_
  intro A W E Q R hE hR hf hQ; rcases W with ⟨ar, cm, conj, cv, sl, sc, ct, sa, ss, ll, _, _, _, _, mi, mx, _, _, _⟩
  unfold r09_Signs_g at h
  skip
  cbv
  refine L_for hE lay_ok 0 (fun g : Int × Nat => [(5, fI .i64 g.1)]) (fun g => []) (fun g => r09_Signs_l1 p0 p1 g.2 g.1 = some r) (fun g => g.2) (_, N) h ?_ ?_
  · (cbv; (try simp only [e_rnil hR]); repeat' (first | exact trivial | exact rfl | exact Or.inr trivial | apply And.intro))
  rintro ⟨v1, m1⟩ h Q1 hN1 hT1 hX1
  have h : r09_Signs_l1 p0 p1 m1 v1 = some r := h
  cases m1 with
  | zero => exact nomatch (show (none : Option _) = some _ from h)
  | succ m1 =>
  rw [r09_Signs_l1] at h
  rw [q_ar hE, q_cm hE, q_sl hE, q_sa hE] at h
  cbv
  refine L_rgJ hE lay_ok h 0 (fun j1 : Bool => [(21, fB j1)]) (fun j1 => []) (fun j1 h => ?_) (fun j1 h => ?_) <;> cbv
  · refine L_if hE h (fun h => ?_) (fun h => ?_) <;> cbv
    · refine L_sin hE h fun h => ?_
      refine L_call hE hR h (fun _ e => r09_sign_w e) rfl rfl fun a2 h => ?_; cbv
      cases h; (cbv; (try simp only [e_rnil hR]); repeat' (first | exact trivial | exact rfl | exact Or.inr trivial | apply And.intro))
    cases h; (cbv; (try simp only [e_rnil hR]); repeat' (first | exact trivial | exact rfl | exact Or.inr trivial | apply And.intro))
  refine L_if hE h (fun h => ?_) (fun h => ?_) <;> cbv
  · refine hN1 _ (_, m1) [] h (Nat.lt_succ_self _) trivial ?_; (cbv; (try simp only [e_rnil hR]); repeat' (first | exact trivial | exact rfl | exact Or.inr trivial | apply And.intro))
  refine hX1 _ _ ?_; cbv
  exact And.left (hQ _ _ _ rfl rfl (by cases h; subst hR; rfl))
theorem r22_is_w {p0 : ByteArray} {p1 : Int} {p2 : Int} {r : Bool} (h : r22_is_g p0 p1 p2 = some r) : FunS Tryz.prog 35 [fS p0, fI .i64 p1, fI .u8 p2] (r22_is_s rw) r := by
  refine fun_w lay_ok Tryz.call35 Tryz.func35 rfl ?_
  intro A W E Q R hE hR hf hQ; rcases W with ⟨ar, cm, conj, cv, sl, sc, ct, sa, ss, ll, _, _, _, _, mi, mx, _, _, _⟩
  unfold r22_is_g at h
  rw [q_cm hE, q_sl hE, q_sa hE] at h
  cbv
  refine L_rgJ hE lay_ok h 0 (fun j1 : Bool => [(6, fB j1)]) (fun j1 => []) (fun j1 h => ?_) (fun j1 h => ?_) <;> cbv
  · refine L_if hE h (fun h => ?_) (fun h => ?_) <;> cbv
    · refine L_sin hE h fun h => ?_
      cases h; (cbv; (try simp only [e_rnil hR]); repeat' (first | exact trivial | exact rfl | exact Or.inr trivial | apply And.intro))
    cases h; (cbv; (try simp only [e_rnil hR]); repeat' (first | exact trivial | exact rfl | exact Or.inr trivial | apply And.intro))
  exact And.left (hQ _ _ _ rfl rfl (by cases h; subst hR; rfl))
theorem r22_Op_w {p0 : ByteArray} {p1 : Int} {r : Int} (h : r22_Op_g p0 p1 = some r) : FunS Tryz.prog 34 [fS p0, fI .i64 p1] (r22_Op_s rw) r := by
  refine fun_w lay_ok Tryz.call34 Tryz.func34 rfl ?_
  intro A W E Q R hE hR hf hQ; rcases W with ⟨ar, cm, conj, cv, sl, sc, ct, sa, ss, ll, _, _, _, _, mi, mx, _, _, _⟩
  unfold r22_Op_g at h
  rw [q_ar hE] at h
  cbv
  refine L_rgJ hE lay_ok h 0 (fun j1 : Bool => [(13, fB j1)]) (fun j1 => []) (fun j1 h => ?_) (fun j1 h => ?_) <;> cbv
  · refine L_call hE hR h (fun _ e => r22_is_w e) rfl rfl fun a1 h => ?_; cbv
    refine L_if hE h (fun h => ?_) (fun h => ?_) <;> cbv
    · refine L_call hE hR h (fun _ e => r22_is_w e) rfl rfl fun a2 h => ?_; cbv
      cases h; (cbv; (try simp only [e_rnil hR]); repeat' (first | exact trivial | exact rfl | exact Or.inr trivial | apply And.intro))
    cases h; (cbv; (try simp only [e_rnil hR]); repeat' (first | exact trivial | exact rfl | exact Or.inr trivial | apply And.intro))
  refine L_if hE h (fun h => ?_) (fun h => ?_) <;> cbv
  · exact And.left (hQ _ _ _ rfl rfl (by cases h; subst hR; rfl))
  refine L_call hE hR h (fun _ e => r22_is_w e) rfl rfl fun a3 h => ?_; cbv
  refine L_if hE h (fun h => ?_) (fun h => ?_) <;> cbv
  · exact And.left (hQ _ _ _ rfl rfl (by cases h; subst hR; rfl))
  refine L_rgJ hE lay_ok h 0 (fun j2 : Bool => [(25, fB j2)]) (fun j2 => []) (fun j2 h => ?_) (fun j2 h => ?_) <;> cbv
  · refine L_call hE hR h (fun _ e => r22_is_w e) rfl rfl fun a4 h => ?_; cbv
    refine L_if hE h (fun h => ?_) (fun h => ?_) <;> cbv
    · refine L_call hE hR h (fun _ e => r22_is_w e) rfl rfl fun a5 h => ?_; cbv
      cases h; (cbv; (try simp only [e_rnil hR]); repeat' (first | exact trivial | exact rfl | exact Or.inr trivial | apply And.intro))
    cases h; (cbv; (try simp only [e_rnil hR]); repeat' (first | exact trivial | exact rfl | exact Or.inr trivial | apply And.intro))
  refine L_if hE h (fun h => ?_) (fun h => ?_) <;> cbv
  · exact And.left (hQ _ _ _ rfl rfl (by cases h; subst hR; rfl))
  refine L_rgJ hE lay_ok h 0 (fun j3 : Bool => [(34, fB j3)]) (fun j3 => []) (fun j3 h => ?_) (fun j3 h => ?_) <;> cbv
  · refine L_call hE hR h (fun _ e => r22_is_w e) rfl rfl fun a6 h => ?_; cbv
    refine L_if hE h (fun h => ?_) (fun h => ?_) <;> cbv
    · refine L_call hE hR h (fun _ e => r22_is_w e) rfl rfl fun a7 h => ?_; cbv
      cases h; (cbv; (try simp only [e_rnil hR]); repeat' (first | exact trivial | exact rfl | exact Or.inr trivial | apply And.intro))
    cases h; (cbv; (try simp only [e_rnil hR]); repeat' (first | exact trivial | exact rfl | exact Or.inr trivial | apply And.intro))
  refine L_if hE h (fun h => ?_) (fun h => ?_) <;> cbv
  · exact And.left (hQ _ _ _ rfl rfl (by cases h; subst hR; rfl))
  exact And.left (hQ _ _ _ rfl rfl (by cases h; subst hR; rfl))
theorem r22_Sign_w {p0 : Int} {r : ByteArray} (h : r22_Sign_g p0 = some r) : FunS Tryz.prog 36 [fI .i64 p0] (r22_Sign_s rw) r := by
  refine fun_w lay_ok Tryz.call36 Tryz.func36 rfl ?_
  intro A W E Q R hE hR hf hQ; rcases W with ⟨ar, cm, conj, cv, sl, sc, ct, sa, ss, ll, _, _, _, _, mi, mx, _, _, _⟩
  unfold r22_Sign_g at h
  rw [q_cm hE] at h
  cbv
  refine L_if hE h (fun h => ?_) (fun h => ?_) <;> cbv
  · exact And.left (hQ _ _ _ rfl rfl (by cases h; subst hR; rfl))
  refine L_if hE h (fun h => ?_) (fun h => ?_) <;> cbv
  · exact And.left (hQ _ _ _ rfl rfl (by cases h; subst hR; rfl))
  refine L_if hE h (fun h => ?_) (fun h => ?_) <;> cbv
  · exact And.left (hQ _ _ _ rfl rfl (by cases h; subst hR; rfl))
  refine L_if hE h (fun h => ?_) (fun h => ?_) <;> cbv
  · exact And.left (hQ _ _ _ rfl rfl (by cases h; subst hR; rfl))
  exact And.left (hQ _ _ _ rfl rfl (by cases h; subst hR; rfl))
end Gn
end Go.Proofs.YtampjnpnekekiaaGreatDoor
namespace Go.Proofs.YtampjnpnekekiaaGreatDoor
open Go Go.RowKit
set_option linter.unusedVariables false
set_option linter.unusedSimpArgs false
set_option maxRecDepth 100000
set_option maxHeartbeats 4000000
open Ab Sh
namespace Gn
theorem r10_digit_w {p0 : Int} {r : Int} (h : r10_digit_g p0 = some r) : FunS Tryz.prog 84 [fI .u8 p0] (r10_digit_s rw) r := by
  refine fun_w lay_ok Tryz.call84 Tryz.func84 rfl ?_
  intro A W E Q R hE hR hf hQ; rcases W with ⟨ar, cm, conj, cv, sl, sc, ct, sa, ss, ll, _, _, _, _, mi, mx, _, _, _⟩
  unfold r10_digit_g at h
  rw [q_ar hE, q_cm hE, q_cv hE] at h
  cbv
  refine L_rgJ hE lay_ok h 0 (fun j1 : Bool => [(8, fB j1)]) (fun j1 => []) (fun j1 h => ?_) (fun j1 h => ?_) <;> cbv
  · refine L_if hE h (fun h => ?_) (fun h => ?_) <;> cbv
    · cases h; (cbv; (try simp only [e_rnil hR]); repeat' (first | exact trivial | exact rfl | exact Or.inr trivial | apply And.intro))
    cases h; (cbv; (try simp only [e_rnil hR]); repeat' (first | exact trivial | exact rfl | exact Or.inr trivial | apply And.intro))
  refine L_if hE h (fun h => ?_) (fun h => ?_) <;> cbv
  · exact And.left (hQ _ _ _ rfl rfl (by cases h; subst hR; rfl))
  refine L_rgJ hE lay_ok h 0 (fun j2 : Bool => [(17, fB j2)]) (fun j2 => []) (fun j2 h => ?_) (fun j2 h => ?_) <;> cbv
  · refine L_if hE h (fun h => ?_) (fun h => ?_) <;> cbv
    · cases h; (cbv; (try simp only [e_rnil hR]); repeat' (first | exact trivial | exact rfl | exact Or.inr trivial | apply And.intro))
    cases h; (cbv; (try simp only [e_rnil hR]); repeat' (first | exact trivial | exact rfl | exact Or.inr trivial | apply And.intro))
  refine L_if hE h (fun h => ?_) (fun h => ?_) <;> cbv
  · exact And.left (hQ _ _ _ rfl rfl (by cases h; subst hR; rfl))
  exact And.left (hQ _ _ _ rfl rfl (by cases h; subst hR; rfl))
theorem r02_Byte_w {p0 : Int} {r : ByteArray} (h : r02_Byte_g p0 = some r) : FunS Tryz.prog 85 [fI .i64 p0] (r02_Byte_s rw) r := by
  refine fun_w lay_ok Tryz.call85 Tryz.func85 rfl ?_
  intro A W E Q R hE hR hf hQ; rcases W with ⟨ar, cm, conj, cv, sl, sc, ct, sa, ss, ll, _, _, _, _, mi, mx, _, _, _⟩
  unfold r02_Byte_g at h
  rw [q_cv hE] at h
  cbv
  refine L_lit hR (e := (cI .u8)) h rfl fun l1 e h => ?_; cbv at e; rw [e]; clear e
  refine L_bok hE hR h fun s2 e h => ?_; cbv at e; rw [e]; clear e
  exact And.left (hQ _ _ _ rfl rfl (by cases h; subst hR; rfl))
theorem r10_Escape_w {p0 : ByteArray} {p1 : Int} {r : ByteArray × Int} (h : r10_Escape_g p0 p1 = some r) : FunS Tryz.prog 59 [fS p0, fI .i64 p1] (r10_Escape_s rw) r := by
  refine fun_w lay_ok Tryz.call59 Tryz.func59 rfl ?_
  intro A W E Q R hE hR hf hQ; rcases W with ⟨ar, cm, conj, cv, sl, sc, ct, sa, ss, ll, _, _, _, _, mi, mx, _, _, _⟩
  unfold r10_Escape_g at h
  rw [q_ar hE, q_cm hE, q_sl hE, q_sa hE, q_ss hE] at h
  cbv
  refine L_if hE h (fun h => ?_) (fun h => ?_) <;> cbv
  · exact And.left (hQ _ _ _ rfl rfl (by cases h; subst hR; rfl))
  refine L_rgJ hE lay_ok h 0 (fun j1 : Bool => [(26, fB j1)]) (fun j1 => []) (fun j1 h => ?_) (fun j1 h => ?_) <;> cbv
  · refine L_sin hE h fun h => ?_
    refine L_if hE h (fun h => ?_) (fun h => ?_) <;> cbv
    · cases h; (cbv; (try simp only [e_rnil hR]); repeat' (first | exact trivial | exact rfl | exact Or.inr trivial | apply And.intro))
    refine L_sin hE h fun h => ?_
    cases h; (cbv; (try simp only [e_rnil hR]); repeat' (first | exact trivial | exact rfl | exact Or.inr trivial | apply And.intro))
  refine L_if hE h (fun h => ?_) (fun h => ?_) <;> cbv
  · refine L_ssin hE h fun h => ?_
    exact And.left (hQ _ _ _ rfl rfl (by cases h; subst hR; rfl))
  refine L_sin hE h fun h => ?_
  refine L_if hE h (fun h => ?_) (fun h => ?_) <;> cbv
  · exact And.left (hQ _ _ _ rfl rfl (by cases h; subst hR; rfl))
  refine L_if hE h (fun h => ?_) (fun h => ?_) <;> cbv
  · exact And.left (hQ _ _ _ rfl rfl (by cases h; subst hR; rfl))
  refine L_sin hE h fun h => ?_
  refine L_call hE hR h (fun _ e => r10_digit_w e) rfl rfl fun a1 h => ?_; cbv
  refine L_if hE h (fun h => ?_) (fun h => ?_) <;> cbv
  · exact And.left (hQ _ _ _ rfl rfl (by cases h; subst hR; rfl))
  refine L_if hE h (fun h => ?_) (fun h => ?_) <;> cbv
  · exact And.left (hQ _ _ _ rfl rfl (by cases h; subst hR; rfl))
  refine L_sin hE h fun h => ?_
  refine L_call hE hR h (fun _ e => r10_digit_w e) rfl rfl fun a2 h => ?_; cbv
  refine L_if hE h (fun h => ?_) (fun h => ?_) <;> cbv
  · exact And.left (hQ _ _ _ rfl rfl (by cases h; subst hR; rfl))
  refine L_call hE hR h (fun _ e => r02_Byte_w e) rfl rfl fun a3 h => ?_; cbv
  exact And.left (hQ _ _ _ rfl rfl (by cases h; subst hR; rfl))
theorem r10_trail_w {N : Nat} {p0 : ByteArray} {p1 : Int} {p2 : Int} {r : Bool} (h : r10_trail_g N p0 p1 p2 = some r) : FunS Tryz.prog 86 [fS p0, fI .i64 p1, fI .i64 p2] (r10_trail_s rw) r := by
  refine fun_w lay_ok Tryz.call86 Tryz.func86 rfl ?_
  intro A W E Q R hE hR hf hQ; rcases W with ⟨ar, cm, conj, cv, sl, sc, ct, sa, ss, ll, _, _, _, _, mi, mx, _, _, _⟩
  unfold r10_trail_g at h
  rw [q_ar hE, q_cm hE, q_sl hE] at h
  cbv
  refine L_if hE h (fun h => ?_) (fun h => ?_) <;> cbv
  · exact And.left (hQ _ _ _ rfl rfl (by cases h; subst hR; rfl))
  refine L_for hE lay_ok 0 (fun g : Int × Nat => [(6, fB false), (7, fI .i64 g.1)]) (fun g => []) (fun g => r10_trail_l1 p0 p1 p2 g.2 g.1 = some r) (fun g => g.2) (_, N) h ?_ ?_
  · (cbv; (try simp only [e_rnil hR]); repeat' (first | exact trivial | exact rfl | exact Or.inr trivial | apply And.intro))
  rintro ⟨v1, m1⟩ h Q1 hN1 hT1 hX1
  have h : r10_trail_l1 p0 p1 p2 m1 v1 = some r := h
  cases m1 with
  | zero => exact nomatch (show (none : Option _) = some _ from h)
  | succ m1 =>
  rw [r10_trail_l1] at h
  rw [q_ar hE, q_cm hE, q_sa hE] at h
  cbv
  refine L_if hE h (fun h => ?_) (fun h => ?_) <;> cbv
  · refine L_rgJ hE lay_ok h 0 (fun j2 : Bool => [(31, fB j2)]) (fun j2 => []) (fun j2 h => ?_) (fun j2 h => ?_) <;> cbv
    · refine L_sin hE h fun h => ?_
      refine L_if hE h (fun h => ?_) (fun h => ?_) <;> cbv
      · cases h; (cbv; (try simp only [e_rnil hR]); repeat' (first | exact trivial | exact rfl | exact Or.inr trivial | apply And.intro))
      refine L_sin hE h fun h => ?_
      cases h; (cbv; (try simp only [e_rnil hR]); repeat' (first | exact trivial | exact rfl | exact Or.inr trivial | apply And.intro))
    refine L_if hE h (fun h => ?_) (fun h => ?_) <;> cbv
    · refine hT1 _ ?_
      exact And.left (hQ _ _ _ rfl rfl (by cases h; subst hR; rfl))
    refine hN1 _ (_, m1) [] h (Nat.lt_succ_self _) trivial ?_; (cbv; (try simp only [e_rnil hR]); repeat' (first | exact trivial | exact rfl | exact Or.inr trivial | apply And.intro))
  refine hX1 _ _ ?_; cbv
  exact And.left (hQ _ _ _ rfl rfl (by cases h; subst hR; rfl))
theorem r10_Rune_w {N : Nat} {p0 : ByteArray} {p1 : Int} {r : Int} (h : r10_Rune_g N p0 p1 = some r) : FunS Tryz.prog 61 [fS p0, fI .i64 p1] (r10_Rune_s rw) r := by
  refine fun_w lay_ok Tryz.call61 Tryz.func61 rfl ?_
  intro A W E Q R hE hR hf hQ; rcases W with ⟨ar, cm, conj, cv, sl, sc, ct, sa, ss, ll, _, _, _, _, mi, mx, _, _, _⟩
  unfold r10_Rune_g at h
  rw [q_ar hE, q_cm hE, q_cv hE, q_sl hE, q_sa hE] at h
  cbv
  refine L_sin hE h fun h => ?_
  refine L_if hE h (fun h => ?_) (fun h => ?_) <;> cbv
  · exact And.left (hQ _ _ _ rfl rfl (by cases h; subst hR; rfl))
  refine L_cdJ hE lay_ok h 0 (fun j1 : Int => [(6, fI .i64 j1)]) (fun j1 => []) (fun j1 h => ?_) (fun j1 h => ?_) <;> cbv
  · refine L_if hE h (fun h => ?_) (fun h => ?_) <;> cbv
    · refine L_sin hE h fun h => ?_
      cases h; (cbv; (try simp only [e_rnil hR]); repeat' (first | exact trivial | exact rfl | exact Or.inr trivial | apply And.intro))
    cases h; (cbv; (try simp only [e_rnil hR]); repeat' (first | exact trivial | exact rfl | exact Or.inr trivial | apply And.intro))
  refine L_rgJ hE lay_ok h 0 (fun j2 : Bool => [(34, fB j2)]) (fun j2 => []) (fun j2 h => ?_) (fun j2 h => ?_) <;> cbv
  · refine L_if hE h (fun h => ?_) (fun h => ?_) <;> cbv
    · refine L_if hE h (fun h => ?_) (fun h => ?_) <;> cbv
      · refine L_call hE hR h (fun _ e => r10_trail_w e) rfl rfl fun a1 h => ?_; cbv
        cases h; (cbv; (try simp only [e_rnil hR]); repeat' (first | exact trivial | exact rfl | exact Or.inr trivial | apply And.intro))
      cases h; (cbv; (try simp only [e_rnil hR]); repeat' (first | exact trivial | exact rfl | exact Or.inr trivial | apply And.intro))
    cases h; (cbv; (try simp only [e_rnil hR]); repeat' (first | exact trivial | exact rfl | exact Or.inr trivial | apply And.intro))
  refine L_if hE h (fun h => ?_) (fun h => ?_) <;> cbv
  · exact And.left (hQ _ _ _ rfl rfl (by cases h; subst hR; rfl))
  refine L_rgJ hE lay_ok h 0 (fun j3 : Bool => [(62, fB j3)]) (fun j3 => []) (fun j3 h => ?_) (fun j3 h => ?_) <;> cbv
  · refine L_if hE h (fun h => ?_) (fun h => ?_) <;> cbv
    · refine L_if hE h (fun h => ?_) (fun h => ?_) <;> cbv
      · refine L_call hE hR h (fun _ e => r10_trail_w e) rfl rfl fun a2 h => ?_; cbv
        refine L_if hE h (fun h => ?_) (fun h => ?_) <;> cbv
        · refine L_if hE h (fun h => ?_) (fun h => ?_) <;> cbv
          · refine L_if hE h (fun h => ?_) (fun h => ?_) <;> cbv
            · cases h; (cbv; (try simp only [e_rnil hR]); repeat' (first | exact trivial | exact rfl | exact Or.inr trivial | apply And.intro))
            cases h; (cbv; (try simp only [e_rnil hR]); repeat' (first | exact trivial | exact rfl | exact Or.inr trivial | apply And.intro))
          refine L_if hE h (fun h => ?_) (fun h => ?_) <;> cbv
          · refine L_if hE h (fun h => ?_) (fun h => ?_) <;> cbv
            · cases h; (cbv; (try simp only [e_rnil hR]); repeat' (first | exact trivial | exact rfl | exact Or.inr trivial | apply And.intro))
            cases h; (cbv; (try simp only [e_rnil hR]); repeat' (first | exact trivial | exact rfl | exact Or.inr trivial | apply And.intro))
          cases h; (cbv; (try simp only [e_rnil hR]); repeat' (first | exact trivial | exact rfl | exact Or.inr trivial | apply And.intro))
        cases h; (cbv; (try simp only [e_rnil hR]); repeat' (first | exact trivial | exact rfl | exact Or.inr trivial | apply And.intro))
      cases h; (cbv; (try simp only [e_rnil hR]); repeat' (first | exact trivial | exact rfl | exact Or.inr trivial | apply And.intro))
    cases h; (cbv; (try simp only [e_rnil hR]); repeat' (first | exact trivial | exact rfl | exact Or.inr trivial | apply And.intro))
  refine L_if hE h (fun h => ?_) (fun h => ?_) <;> cbv
  · exact And.left (hQ _ _ _ rfl rfl (by cases h; subst hR; rfl))
  refine L_rgJ hE lay_ok h 0 (fun j4 : Bool => [(90, fB j4)]) (fun j4 => []) (fun j4 h => ?_) (fun j4 h => ?_) <;> cbv
  · refine L_if hE h (fun h => ?_) (fun h => ?_) <;> cbv
    · refine L_if hE h (fun h => ?_) (fun h => ?_) <;> cbv
      · refine L_call hE hR h (fun _ e => r10_trail_w e) rfl rfl fun a3 h => ?_; cbv
        refine L_if hE h (fun h => ?_) (fun h => ?_) <;> cbv
        · refine L_if hE h (fun h => ?_) (fun h => ?_) <;> cbv
          · refine L_if hE h (fun h => ?_) (fun h => ?_) <;> cbv
            · cases h; (cbv; (try simp only [e_rnil hR]); repeat' (first | exact trivial | exact rfl | exact Or.inr trivial | apply And.intro))
            cases h; (cbv; (try simp only [e_rnil hR]); repeat' (first | exact trivial | exact rfl | exact Or.inr trivial | apply And.intro))
          refine L_if hE h (fun h => ?_) (fun h => ?_) <;> cbv
          · refine L_if hE h (fun h => ?_) (fun h => ?_) <;> cbv
            · cases h; (cbv; (try simp only [e_rnil hR]); repeat' (first | exact trivial | exact rfl | exact Or.inr trivial | apply And.intro))
            cases h; (cbv; (try simp only [e_rnil hR]); repeat' (first | exact trivial | exact rfl | exact Or.inr trivial | apply And.intro))
          cases h; (cbv; (try simp only [e_rnil hR]); repeat' (first | exact trivial | exact rfl | exact Or.inr trivial | apply And.intro))
        cases h; (cbv; (try simp only [e_rnil hR]); repeat' (first | exact trivial | exact rfl | exact Or.inr trivial | apply And.intro))
      cases h; (cbv; (try simp only [e_rnil hR]); repeat' (first | exact trivial | exact rfl | exact Or.inr trivial | apply And.intro))
    cases h; (cbv; (try simp only [e_rnil hR]); repeat' (first | exact trivial | exact rfl | exact Or.inr trivial | apply And.intro))
  refine L_if hE h (fun h => ?_) (fun h => ?_) <;> cbv
  · exact And.left (hQ _ _ _ rfl rfl (by cases h; subst hR; rfl))
  exact And.left (hQ _ _ _ rfl rfl (by cases h; subst hR; rfl))
end Gn
end Go.Proofs.YtampjnpnekekiaaGreatDoor
namespace Go.Proofs.YtampjnpnekekiaaGreatDoor
open Go Go.RowKit
set_option linter.unusedVariables false
set_option linter.unusedSimpArgs false
set_option maxRecDepth 100000
set_option maxHeartbeats 4000000
open Ab Sh
namespace Gn
theorem r10_safe_w {N : Nat} {p0 : ByteArray} {p1 : Int} {r : Bool} (h : r10_safe_g N p0 p1 = some r) : FunS Tryz.prog 60 [fS p0, fI .i64 p1] (r10_safe_s rw) r := by
  refine fun_w lay_ok Tryz.call60 Tryz.func60 rfl ?_
  intro A W E Q R hE hR hf hQ; rcases W with ⟨ar, cm, conj, cv, sl, sc, ct, sa, ss, ll, _, _, _, _, mi, mx, _, _, _⟩
  unfold r10_safe_g at h
  rw [q_cm hE, q_sa hE] at h
  cbv
  refine L_rgJ hE lay_ok h 0 (fun j1 : Bool => [(4, fB j1)]) (fun j1 => []) (fun j1 h => ?_) (fun j1 h => ?_) <;> cbv
  · refine L_call hE hR h (fun _ e => r10_Rune_w e) rfl rfl fun a1 h => ?_; cbv
    refine L_if hE h (fun h => ?_) (fun h => ?_) <;> cbv
    · refine L_sin hE h fun h => ?_
      refine L_if hE h (fun h => ?_) (fun h => ?_) <;> cbv
      · refine L_sin hE h fun h => ?_
        cases h; (cbv; (try simp only [e_rnil hR]); repeat' (first | exact trivial | exact rfl | exact Or.inr trivial | apply And.intro))
      cases h; (cbv; (try simp only [e_rnil hR]); repeat' (first | exact trivial | exact rfl | exact Or.inr trivial | apply And.intro))
    cases h; (cbv; (try simp only [e_rnil hR]); repeat' (first | exact trivial | exact rfl | exact Or.inr trivial | apply And.intro))
  exact And.left (hQ _ _ _ rfl rfl (by cases h; subst hR; rfl))
theorem r10_Read_w {N : Nat} {p0 : ByteArray} {p1 : Int} {r : ByteArray × Int × GFault} (h : r10_Read_g N p0 p1 = some r) : FunS Tryz.prog 37 [fS p0, fI .i64 p1] (r10_Read_s rw) r := by
  refine fun_w lay_ok Tryz.call37 Tryz.func37 rfl ?_
  intro A W E Q R hE hR hf hQ; rcases W with ⟨ar, cm, conj, cv, sl, sc, ct, sa, ss, ll, _, _, _, _, mi, mx, _, _, _⟩
  unfold r10_Read_g at h
  rw [q_ar hE, q_cm hE, q_sl hE, q_sa hE] at h
  cbv
  refine L_rgJ hE lay_ok h 1 (fun j1 : Bool => [(18, fB j1)]) (fun j1 => []) (fun j1 h => ?_) (fun j1 h => ?_) <;> cbv
  · refine L_if hE h (fun h => ?_) (fun h => ?_) <;> cbv
    · cases h; (cbv; (try simp only [e_rnil hR]); repeat' (first | exact trivial | exact rfl | exact Or.inr trivial | apply And.intro))
    cases h; (cbv; (try simp only [e_rnil hR]); repeat' (first | exact trivial | exact rfl | exact Or.inr trivial | apply And.intro))
  refine L_if hE h (fun h => ?_) (fun h => ?_) <;> cbv
  · exact And.left (hQ _ _ _ rfl rfl (by cases h; subst hR; rfl))
  refine L_if hE h (fun h => ?_) (fun h => ?_) <;> cbv
  · exact And.left (hQ _ _ _ rfl rfl (by cases h; subst hR; rfl))
  refine L_sin hE h fun h => ?_
  refine L_if hE h (fun h => ?_) (fun h => ?_) <;> cbv
  · exact And.left (hQ _ _ _ rfl rfl (by cases h; subst hR; rfl))
  refine L_for hE lay_ok 1 (fun g : ByteArray × Int × Nat => [(4, fS ByteArray.empty), (5, fI .i64 0), (7, fS g.1), (8, fI .i64 g.2.1)]) (fun g => []) (fun g => r10_Read_l1 N p0 g.2.2 g.1 g.2.1 = some r) (fun g => g.2.2) (_, _, N) h ?_ ?_
  · (cbv; (try simp only [e_rnil hR]); repeat' (first | exact trivial | exact rfl | exact Or.inr trivial | apply And.intro))
  rintro ⟨v1, v2, m1⟩ h Q1 hN1 hT1 hX1
  have h : r10_Read_l1 N p0 m1 v1 v2 = some r := h
  cases m1 with
  | zero => exact nomatch (show (none : Option _) = some _ from h)
  | succ m1 =>
  rw [r10_Read_l1] at h
  rw [q_ar hE, q_cm hE, q_sl hE, q_ct hE, q_sa hE, q_ss hE] at h
  cbv
  refine L_if hE h (fun h => ?_) (fun h => ?_) <;> cbv
  · refine L_sin hE h fun h => ?_
    refine L_if hE h (fun h => ?_) (fun h => ?_) <;> cbv
    · refine hT1 _ ?_
      exact And.left (hQ _ _ _ rfl rfl (by cases h; subst hR; rfl))
    refine L_ssin hE h fun h => ?_
    refine L_sin hE h fun h => ?_
    refine L_cdJ hE lay_ok h 1 (fun j5 : ByteArray × Int => [(9, fS j5.1), (10, fI .i64 j5.2)]) (fun j5 => []) (fun j5 h => ?_) (fun j5 h => ?_) <;> cbv
    · refine L_if hE h (fun h => ?_) (fun h => ?_) <;> cbv
      · refine L_call hE hR h (fun _ e => r10_Escape_w e) rfl rfl fun a3 h => ?_; cbv
        cases h; (cbv; (try simp only [e_rnil hR]); repeat' (first | exact trivial | exact rfl | exact Or.inr trivial | apply And.intro))
      refine L_call hE hR h (fun _ e => r10_safe_w e) rfl rfl fun a4 h => ?_; cbv
      refine L_cdJ hE lay_ok h 1 (fun j4 : ByteArray × Int => [(9, fS j4.1), (10, fI .i64 j4.2)]) (fun j4 => []) (fun j4 h => ?_) (fun j4 h => ?_) <;> cbv
      · refine L_if hE h (fun h => ?_) (fun h => ?_) <;> cbv
        · refine L_call hE hR h (fun _ e => r10_Rune_w e) rfl rfl fun a5 h => ?_; cbv
          refine L_ssin hE h fun h => ?_
          cases h; (cbv; (try simp only [e_rnil hR]); repeat' (first | exact trivial | exact rfl | exact Or.inr trivial | apply And.intro))
        cases h; (cbv; (try simp only [e_rnil hR]); repeat' (first | exact trivial | exact rfl | exact Or.inr trivial | apply And.intro))
      cases h; (cbv; (try simp only [e_rnil hR]); repeat' (first | exact trivial | exact rfl | exact Or.inr trivial | apply And.intro))
    refine L_if hE h (fun h => ?_) (fun h => ?_) <;> cbv
    · refine hT1 _ ?_
      exact And.left (hQ _ _ _ rfl rfl (by cases h; subst hR; rfl))
    refine L_if hE h (fun h => ?_) (fun h => ?_) <;> cbv
    · refine hT1 _ ?_
      exact And.left (hQ _ _ _ rfl rfl (by cases h; subst hR; rfl))
    refine L_ct hE h fun h => ?_
    refine hN1 _ (_, _, m1) [] h (Nat.lt_succ_self _) trivial ?_; (cbv; (try simp only [e_rnil hR]); repeat' (first | exact trivial | exact rfl | exact Or.inr trivial | apply And.intro))
  refine hX1 _ _ ?_; cbv
  exact And.left (hQ _ _ _ rfl rfl (by cases h; subst hR; rfl))
theorem r22_Take_w {N : Nat} {p0 : ByteArray} {p1 : Int} {r : GMatcher × Int × GFault} (h : r22_Take_g N p0 p1 = some r) : FunS Tryz.prog 15 [fS p0, fI .i64 p1] (r22_Take_s rw) r := by
  refine fun_w lay_ok Tryz.call15 Tryz.func15 rfl ?_
  intro A W E Q R hE hR hf hQ; rcases W with ⟨ar, cm, conj, cv, sl, sc, ct, sa, ss, ll, _, _, _, _, mi, mx, _, _, _⟩
  unfold r22_Take_g at h
  rw [q_ar hE, q_cm hE, q_sl hE, q_ss hE] at h
  cbv
  refine L_rgJ hE lay_ok h 2 (fun j1 : Bool => [(21, fB j1)]) (fun j1 => []) (fun j1 h => ?_) (fun j1 h => ?_) <;> cbv
  · refine L_if hE h (fun h => ?_) (fun h => ?_) <;> cbv
    · cases h; (cbv; (try simp only [e_rnil hR]); repeat' (first | exact trivial | exact rfl | exact Or.inr trivial | apply And.intro))
    cases h; (cbv; (try simp only [e_rnil hR]); repeat' (first | exact trivial | exact rfl | exact Or.inr trivial | apply And.intro))
  refine L_if hE h (fun h => ?_) (fun h => ?_) <;> cbv
  · refine L_call hE hR h (fun _ e => r22_bad_w e) rfl rfl fun a1 h => ?_; cbv
    exact And.left (hQ _ _ _ rfl rfl (by cases h; subst hR; rfl))
  refine L_if hE h (fun h => ?_) (fun h => ?_) <;> cbv
  · refine L_call hE hR h (fun _ e => r22_bad_w e) rfl rfl fun a2 h => ?_; cbv
    exact And.left (hQ _ _ _ rfl rfl (by cases h; subst hR; rfl))
  refine L_call hE hR h (fun _ e => r09_Signs_w e) rfl rfl fun a3 h => ?_; cbv
  refine L_rgJ hE lay_ok h 2 (fun j2 : Bool => [(43, fB j2)]) (fun j2 => []) (fun j2 h => ?_) (fun j2 h => ?_) <;> cbv
  · refine L_if hE h (fun h => ?_) (fun h => ?_) <;> cbv
    · cases h; (cbv; (try simp only [e_rnil hR]); repeat' (first | exact trivial | exact rfl | exact Or.inr trivial | apply And.intro))
    cases h; (cbv; (try simp only [e_rnil hR]); repeat' (first | exact trivial | exact rfl | exact Or.inr trivial | apply And.intro))
  refine L_if hE h (fun h => ?_) (fun h => ?_) <;> cbv
  · refine L_call hE hR h (fun _ e => r22_bad_w e) rfl rfl fun a4 h => ?_; cbv
    exact And.left (hQ _ _ _ rfl rfl (by cases h; subst hR; rfl))
  refine L_call hE hR h (fun _ e => r22_Op_w e) rfl rfl fun a5 h => ?_; cbv
  refine L_rgJ hE lay_ok h 2 (fun j3 : Bool => [(62, fB j3)]) (fun j3 => []) (fun j3 h => ?_) (fun j3 h => ?_) <;> cbv
  · refine L_if hE h (fun h => ?_) (fun h => ?_) <;> cbv
    · cases h; (cbv; (try simp only [e_rnil hR]); repeat' (first | exact trivial | exact rfl | exact Or.inr trivial | apply And.intro))
    cases h; (cbv; (try simp only [e_rnil hR]); repeat' (first | exact trivial | exact rfl | exact Or.inr trivial | apply And.intro))
  refine L_if hE h (fun h => ?_) (fun h => ?_) <;> cbv
  · refine L_call hE hR h (fun _ e => r22_bad_w e) rfl rfl fun a6 h => ?_; cbv
    exact And.left (hQ _ _ _ rfl rfl (by cases h; subst hR; rfl))
  refine L_rgJ hE lay_ok h 2 (fun j4 : Bool => [(81, fB j4)]) (fun j4 => []) (fun j4 h => ?_) (fun j4 h => ?_) <;> cbv
  · refine L_if hE h (fun h => ?_) (fun h => ?_) <;> cbv
    · refine L_call hE hR h (fun _ e => r22_is_w e) rfl rfl fun a7 h => ?_; cbv
      refine L_if hE h (fun h => ?_) (fun h => ?_) <;> cbv
      · cases h; (cbv; (try simp only [e_rnil hR]); repeat' (first | exact trivial | exact rfl | exact Or.inr trivial | apply And.intro))
      cases h; (cbv; (try simp only [e_rnil hR]); repeat' (first | exact trivial | exact rfl | exact Or.inr trivial | apply And.intro))
    cases h; (cbv; (try simp only [e_rnil hR]); repeat' (first | exact trivial | exact rfl | exact Or.inr trivial | apply And.intro))
  refine L_if hE h (fun h => ?_) (fun h => ?_) <;> cbv
  · refine L_call hE hR h (fun _ e => r22_bad_w e) rfl rfl fun a8 h => ?_; cbv
    exact And.left (hQ _ _ _ rfl rfl (by cases h; subst hR; rfl))
  refine L_if hE h (fun h => ?_) (fun h => ?_) <;> cbv
  · refine L_call hE hR h (fun _ e => r22_bad_w e) rfl rfl fun a9 h => ?_; cbv
    exact And.left (hQ _ _ _ rfl rfl (by cases h; subst hR; rfl))
  refine L_call hE hR h (fun _ e => r22_Sign_w e) rfl rfl fun a10 h => ?_; cbv
  refine L_call hE hR h (fun _ e => r10_Read_w e) rfl rfl fun a11 h => ?_; cbv
  refine L_if hE h (fun h => ?_) (fun h => ?_) <;> cbv
  · refine L_call hE hR h (fun _ e => r22_bad_w e) rfl rfl fun a12 h => ?_; cbv
    exact And.left (hQ _ _ _ rfl rfl (by cases h; subst hR; rfl))
  refine L_ssin hE h fun h => ?_
  refine L_call hE hR h (fun _ e => r22_Right_w e) rfl rfl fun a13 h => ?_; cbv
  refine L_if hE h (fun h => ?_) (fun h => ?_) <;> cbv
  · refine L_call hE hR h (fun _ e => r22_Right_w e) rfl rfl fun a14 h => ?_; cbv
    refine L_call hE hR h (fun _ e => r22_bad_w e) rfl rfl fun a15 h => ?_; cbv
    exact And.left (hQ _ _ _ rfl rfl (by cases h; subst hR; rfl))
  exact And.left (hQ _ _ _ rfl rfl (by cases h; subst hR; rfl))
theorem r10_Unit_w {N : Nat} {p0 : ByteArray} {p1 : Int} {r : Int} (h : r10_Unit_g N p0 p1 = some r) : FunS Tryz.prog 62 [fS p0, fI .i64 p1] (r10_Unit_s rw) r := by
  refine fun_w lay_ok Tryz.call62 Tryz.func62 rfl ?_
  intro A W E Q R hE hR hf hQ; rcases W with ⟨ar, cm, conj, cv, sl, sc, ct, sa, ss, ll, _, _, _, _, mi, mx, _, _, _⟩
  unfold r10_Unit_g at h
  rw [q_cm hE, q_sl hE] at h
  cbv
  refine L_rgJ hE lay_ok h 0 (fun j1 : Bool => [(13, fB j1)]) (fun j1 => []) (fun j1 h => ?_) (fun j1 h => ?_) <;> cbv
  · refine L_if hE h (fun h => ?_) (fun h => ?_) <;> cbv
    · cases h; (cbv; (try simp only [e_rnil hR]); repeat' (first | exact trivial | exact rfl | exact Or.inr trivial | apply And.intro))
    cases h; (cbv; (try simp only [e_rnil hR]); repeat' (first | exact trivial | exact rfl | exact Or.inr trivial | apply And.intro))
  refine L_if hE h (fun h => ?_) (fun h => ?_) <;> cbv
  · exact And.left (hQ _ _ _ rfl rfl (by cases h; subst hR; rfl))
  refine L_call hE hR h (fun _ e => r10_Rune_w e) rfl rfl fun a1 h => ?_; cbv
  refine L_if hE h (fun h => ?_) (fun h => ?_) <;> cbv
  · exact And.left (hQ _ _ _ rfl rfl (by cases h; subst hR; rfl))
  exact And.left (hQ _ _ _ rfl rfl (by cases h; subst hR; rfl))
end Gn
end Go.Proofs.YtampjnpnekekiaaGreatDoor
