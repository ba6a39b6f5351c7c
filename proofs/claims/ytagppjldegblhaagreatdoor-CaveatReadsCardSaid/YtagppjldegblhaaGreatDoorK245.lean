/- Texts that the proof leans on. -/
import Derived.Test.YtagppjldegblhaaGreatDoorK243
import Derived.Test.YtagppjldegblhaaGreatDoorK240
set_option linter.unusedVariables false
set_option linter.unusedSimpArgs false
set_option maxRecDepth 100000
set_option maxHeartbeats 4000000
namespace Go.Proofs.YtagppjldegblhaaGreatDoor
open Go Go.RowKit
open Ab Sh
namespace Gn
def r22_bad_s (R : RF) (r : GMatcher × Int × GFault) : V := .tup [.agg [fS r.1.Name, fI .i64 r.1.Op, fS r.1.Value], fI .i64 r.2.1, .agg [fI .i64 r.2.2.E, fI .i64 r.2.2.At]]
def r09_Signs_s (R : RF) (r : Int) : V := fI .i64 r
def r22_is_s (R : RF) (r : Bool) : V := fB r
def r22_Op_s (R : RF) (r : Int) : V := fI .i64 r
def r10_digit_s (R : RF) (r : Int) : V := fI .i64 r
def r02_Byte_s (R : RF) (r : ByteArray) : V := fS r
def r10_Escape_s (R : RF) (r : ByteArray × Int) : V := .tup [fS r.1, fI .i64 r.2]
def r10_Read_s (R : RF) (r : ByteArray × Int × GFault) : V := .tup [fS r.1, fI .i64 r.2.1, .agg [fI .i64 r.2.2.E, fI .i64 r.2.2.At]]
def r22_Take_s (R : RF) (r : GMatcher × Int × GFault) : V := .tup [.agg [fS r.1.Name, fI .i64 r.1.Op, fS r.1.Value], fI .i64 r.2.1, .agg [fI .i64 r.2.2.E, fI .i64 r.2.2.At]]
end Gn
end Go.Proofs.YtagppjldegblhaaGreatDoor
namespace Go.Proofs.YtagppjldegblhaaGreatDoor
open Go Go.RowKit
open Ab Sh
namespace Gn
def r23_is_s (R : RF) (r : Bool) : V := fB r
def r23_other_s (R : RF) (r : GFault) : V := .agg [fI .i64 r.E, fI .i64 r.At]
def r23_Take_s (R : RF) (r : (List GMatcher) × Int × GFault) : V := .tup [.t (.slc (R _ cMatcher r.1)), fI .i64 r.2.1, .agg [fI .i64 r.2.2.E, fI .i64 r.2.2.At]]
def r23_Parse_s (R : RF) (r : (List GMatcher) × GFault) : V := .tup [.t (.slc (R _ cMatcher r.1)), .agg [fI .i64 r.2.E, fI .i64 r.2.At]]
end Gn
end Go.Proofs.YtagppjldegblhaaGreatDoor
namespace Go.Proofs.YtagppjldegblhaaGreatDoor
open Go Go.RowKit
open Ab Sh
namespace Gn
def r09_Pieces_s (R : RF) (r : List ByteArray) : V := .t (.slc (R _ cS r))
def r27_digits_s (R : RF) (r : Int) : V := fI .i64 r
def r27_Parse_s (R : RF) (r : GCaveat × Bool) : V := .tup [.agg [fI .i64 r.1.Kind, fI .i64 r.1.Num, .t (.slc (R _ cS r.1.Words)), .t (.slc (R _ cMatcher r.1.Sel))], fB r.2]
def l27_CaveatReads_s (R : RF) (r : Bool) : V := fB r
end Gn
end Go.Proofs.YtagppjldegblhaaGreatDoor
namespace Go.Proofs.YtagppjldegblhaaGreatDoor
open Go Go.RowKit
open Ab Sh
namespace Gn
theorem r09_Pieces_w {N : Nat} {p0 : ByteArray} {r : List ByteArray} (h : r09_Pieces_g N p0 = some r) : FunS Tryz.prog 40 [fS p0] (r09_Pieces_s rw) r := by
 refine fun_w lay_ok Tryz.call40 Tryz.func40 rfl ?_
 intro A W E Q R hE hR hf hQ; rcases W with ⟨ar, cm, conj, cv, sl, sc, ct, sa, ss, ll, _, _, _, _, mi, mx, _, _, _⟩
 unfold r09_Pieces_g at h
 skip
 cbv
 refine L_for hE lay_ok 0 (fun g : Int × Int × (List ByteArray) × Nat => [(3, .lst 0), (4, fI .i64 g.1), (5, fI .i64 g.2.1)]) (fun g => [(0, .list 9 1 (R _ cS g.2.2.1))]) (fun g => r09_Pieces_l1 p0 g.2.2.2 g.1 g.2.1 g.2.2.1 = some r) (fun g => g.2.2.2) (_, _, _, N) h ?_ ?_
 · (cbv; (try simp only [e_rnil hR]); repeat' (first | exact trivial | exact rfl | exact Or.inr trivial | apply And.intro))
 rintro ⟨v1, v2, v3, m1⟩ h Q1 hN1 hT1 hX1
 have h : r09_Pieces_l1 p0 m1 v1 v2 v3 = some r := h
 cases m1 with
 | zero => exact nomatch (show (none : Option _) = some _ from h)
 | succ m1 =>
 rw [r09_Pieces_l1] at h
 rw [q_ar hE, q_cm hE, q_sl hE, q_sa hE, q_ss hE] at h
 cbv
 refine L_if hE h (fun h => ?_) (fun h => ?_) <;> cbv
 · refine L_rgJ hE lay_ok h 1 (fun j3 : Bool => [(21, fB j3)]) (fun j3 => []) (fun j3 h => ?_) (fun j3 h => ?_) <;> cbv
   · refine L_if hE h (fun h => ?_) (fun h => ?_) <;> cbv
     · cases h; (cbv; (try simp only [e_rnil hR]); repeat' (first | exact trivial | exact rfl | exact Or.inr trivial | apply And.intro))
     refine L_sin hE h fun h => ?_
     cases h; (cbv; (try simp only [e_rnil hR]); repeat' (first | exact trivial | exact rfl | exact Or.inr trivial | apply And.intro))
   refine L_cdJ hE lay_ok h 1 (fun j4 : Int × (List ByteArray) => [(3, .lst 0), (4, fI .i64 j4.1)]) (fun j4 => [(0, .list 9 1 (R _ cS j4.2))]) (fun j4 h => ?_) (fun j4 h => ?_) <;> cbv
   · refine L_if hE h (fun h => ?_) (fun h => ?_) <;> cbv
     · refine L_ssin hE h fun h => ?_
       refine L_appL hE hR h rfl (hf _) (fun _ => rfl) (by decide) fun l4 e h => ?_; cbv at e; rw [e]; clear e
       cases h; (cbv; (try simp only [e_rnil hR]); repeat' (first | exact trivial | exact rfl | exact Or.inr trivial | apply And.intro))
     cases h; (cbv; (try simp only [e_rnil hR]); repeat' (first | exact trivial | exact rfl | exact Or.inr trivial | apply And.intro))
   refine hN1 _ (_, _, _, m1) [] h (Nat.lt_succ_self _) trivial ?_; (cbv; (try simp only [e_rnil hR]); repeat' (first | exact trivial | exact rfl | exact Or.inr trivial | apply And.intro))
 refine hX1 _ _ ?_; cbv
 exact And.left (hQ _ _ _ rfl rfl (by cases h; subst hR; rfl))
end Gn
end Go.Proofs.YtagppjldegblhaaGreatDoor
namespace Go.Proofs.YtagppjldegblhaaGreatDoor
open Go Go.RowKit
open Sh Gn
namespace Pl
theorem reads27_p (s : ByteArray) : l27_CaveatReads_g 200000 s = some true := reads27_g (Nat.le_refl _) (fun g h1 h2 => mtext_p g h1 h2) cworks_p s
end Pl
end Go.Proofs.YtagppjldegblhaaGreatDoor
namespace Go.Proofs.YtagppjldegblhaaGreatDoor
open Go Go.RowKit
open Ab Sh
namespace Gn
theorem r27_digits_w {N : Nat} {p0 : ByteArray} {r : Int} (h : r27_digits_g N p0 = some r) : FunS Tryz.prog 41 [fS p0] (r27_digits_s rw) r := by
 refine fun_w lay_ok Tryz.call41 Tryz.func41 rfl ?_
 intro A W E Q R hE hR hf hQ; rcases W with ⟨ar, cm, conj, cv, sl, sc, ct, sa, ss, ll, _, _, _, _, mi, mx, _, _, _⟩
 unfold r27_digits_g at h
 rw [q_cm hE, q_sl hE] at h
 cbv
 refine L_rgJ hE lay_ok h 0 (fun j1 : Bool => [(12, fB j1)]) (fun j1 => []) (fun j1 h => ?_) (fun j1 h => ?_) <;> cbv
 · refine L_if hE h (fun h => ?_) (fun h => ?_) <;> cbv
   · cases h; (cbv; (try simp only [e_rnil hR]); repeat' (first | exact trivial | exact rfl | exact Or.inr trivial | apply And.intro))
   cases h; (cbv; (try simp only [e_rnil hR]); repeat' (first | exact trivial | exact rfl | exact Or.inr trivial | apply And.intro))
 refine L_if hE h (fun h => ?_) (fun h => ?_) <;> cbv
 · exact And.left (hQ _ _ _ rfl rfl (by cases h; subst hR; rfl))
 refine L_for hE lay_ok 0 (fun g : Int × Int × Nat => [(2, fI .i64 0), (3, fI .i64 g.1), (4, fI .i64 g.2.1)]) (fun g => []) (fun g => r27_digits_l1 p0 g.2.2 g.1 g.2.1 = some r) (fun g => g.2.2) (_, _, N) h ?_ ?_
 · (cbv; (try simp only [e_rnil hR]); repeat' (first | exact trivial | exact rfl | exact Or.inr trivial | apply And.intro))
 rintro ⟨v1, v2, m1⟩ h Q1 hN1 hT1 hX1
 have h : r27_digits_l1 p0 m1 v1 v2 = some r := h
 cases m1 with
 | zero => exact nomatch (show (none : Option _) = some _ from h)
 | succ m1 =>
 rw [r27_digits_l1] at h
 rw [q_ar hE, q_cm hE, q_cv hE, q_sl hE, q_sa hE] at h
 cbv
 refine L_if hE h (fun h => ?_) (fun h => ?_) <;> cbv
 · refine L_rgJ hE lay_ok h 0 (fun j3 : Bool => [(28, fB j3)]) (fun j3 => []) (fun j3 h => ?_) (fun j3 h => ?_) <;> cbv
   · refine L_sin hE h fun h => ?_
     refine L_if hE h (fun h => ?_) (fun h => ?_) <;> cbv
     · cases h; (cbv; (try simp only [e_rnil hR]); repeat' (first | exact trivial | exact rfl | exact Or.inr trivial | apply And.intro))
     refine L_sin hE h fun h => ?_
     cases h; (cbv; (try simp only [e_rnil hR]); repeat' (first | exact trivial | exact rfl | exact Or.inr trivial | apply And.intro))
   refine L_if hE h (fun h => ?_) (fun h => ?_) <;> cbv
   · refine hT1 _ ?_
     exact And.left (hQ _ _ _ rfl rfl (by cases h; subst hR; rfl))
   refine L_sin hE h fun h => ?_
   refine hN1 _ (_, _, m1) [] h (Nat.lt_succ_self _) trivial ?_; (cbv; (try simp only [e_rnil hR]); repeat' (first | exact trivial | exact rfl | exact Or.inr trivial | apply And.intro))
 refine hX1 _ _ ?_; cbv
 exact And.left (hQ _ _ _ rfl rfl (by cases h; subst hR; rfl))
theorem r23_is_w {p0 : ByteArray} {p1 : Int} {p2 : Int} {r : Bool} (h : r23_is_g p0 p1 p2 = some r) : FunS Tryz.prog 85 [fS p0, fI .i64 p1, fI .u8 p2] (r23_is_s rw) r := by
 refine fun_w lay_ok Tryz.call85 Tryz.func85 rfl ?_
 intro A W E Q R hE hR hf hQ; rcases W with ⟨ar, cm, conj, cv, sl, sc, ct, sa, ss, ll, _, _, _, _, mi, mx, _, _, _⟩
 unfold r23_is_g at h
 rw [q_cm hE, q_sl hE, q_sa hE] at h
 cbv
 refine L_rgJ hE lay_ok h 0 (fun j1 : Bool => [(6, fB j1)]) (fun j1 => []) (fun j1 h => ?_) (fun j1 h => ?_) <;> cbv
 · refine L_if hE h (fun h => ?_) (fun h => ?_) <;> cbv
   · refine L_sin hE h fun h => ?_
     cases h; (cbv; (try simp only [e_rnil hR]); repeat' (first | exact trivial | exact rfl | exact Or.inr trivial | apply And.intro))
   cases h; (cbv; (try simp only [e_rnil hR]); repeat' (first | exact trivial | exact rfl | exact Or.inr trivial | apply And.intro))
 exact And.left (hQ _ _ _ rfl rfl (by cases h; subst hR; rfl))
theorem r23_other_w {p0 : ByteArray} {p1 : Int} {r : GFault} (h : r23_other_g p0 p1 = some r) : FunS Tryz.prog 86 [fS p0, fI .i64 p1] (r23_other_s rw) r := by
 refine fun_w lay_ok Tryz.call86 Tryz.func86 rfl ?_
 intro A W E Q R hE hR hf hQ; rcases W with ⟨ar, cm, conj, cv, sl, sc, ct, sa, ss, ll, _, _, _, _, mi, mx, _, _, _⟩
 unfold r23_other_g at h
 rw [q_cm hE, q_sl hE] at h
 cbv
 refine L_if hE h (fun h => ?_) (fun h => ?_) <;> cbv
 · exact And.left (hQ _ _ _ rfl rfl (by cases h; subst hR; rfl))
 exact And.left (hQ _ _ _ rfl rfl (by cases h; subst hR; rfl))
theorem r22_bad_w {p0 : Int} {p1 : Int} {r : GMatcher × Int × GFault} (h : r22_bad_g p0 p1 = some r) : FunS Tryz.prog 121 [fI .i64 p0, fI .i64 p1] (r22_bad_s rw) r := by
 refine fun_w lay_ok Tryz.call121 Tryz.func121 rfl ?_
 intro A W E Q R hE hR hf hQ; rcases W with ⟨ar, cm, conj, cv, sl, sc, ct, sa, ss, ll, _, _, _, _, mi, mx, _, _, _⟩
 unfold r22_bad_g at h
 skip
 cbv
 exact And.left (hQ _ _ _ rfl rfl (by cases h; subst hR; rfl))
theorem r09_Signs_w {N : Nat} {p0 : ByteArray} {p1 : Int} {r : Int} (h : r09_Signs_g N p0 p1 = some r) : FunS Tryz.prog 122 [fS p0, fI .i64 p1] (r09_Signs_s rw) r := by
 refine fun_w lay_ok Tryz.call122 Tryz.func122 rfl ?_
 intro A W E Q R hE hR hf hQ; rcases W with ⟨ar, cm, conj, cv, sl, sc, ct, sa, ss, ll, _, _, _, _, mi, mx, _, _, _⟩
 unfold r09_Signs_g at h
 skip
 cbv
 refine L_for hE lay_ok 0 (fun g : Int × Nat => [(5, fI .i64 g.1)]) (fun g => []) (fun g => r09_Signs_l1 p0 p1 g.2 g.1 = some r) (fun g => g.2) (_, N) h ?_ ?_
 · (cbv; (try simp only [e_rnil hR]); repeat' (first | exact trivial | exact rfl | exact Or.inr trivial | apply And.intro))
 rintro ⟨v1, m1⟩ h Q1 hN1 hT1 hX1
 have h : r09_Signs_l1 p0 p1 m1 v1 = some r := h
 cases m1 with
 | zero => exact nomatch (show (none : Option _) = some _ from h)
 | succ m1 =>
 rw [r09_Signs_l1] at h
 rw [q_ar hE, q_cm hE, q_sl hE, q_sa hE] at h
 cbv
 refine L_rgJ hE lay_ok h 0 (fun j1 : Bool => [(21, fB j1)]) (fun j1 => []) (fun j1 h => ?_) (fun j1 h => ?_) <;> cbv
 · refine L_if hE h (fun h => ?_) (fun h => ?_) <;> cbv
   · refine L_sin hE h fun h => ?_
     refine L_call hE hR h (fun _ e => r09_sign_w e) rfl rfl fun a2 h => ?_; cbv
     cases h; (cbv; (try simp only [e_rnil hR]); repeat' (first | exact trivial | exact rfl | exact Or.inr trivial | apply And.intro))
   cases h; (cbv; (try simp only [e_rnil hR]); repeat' (first | exact trivial | exact rfl | exact Or.inr trivial | apply And.intro))
 refine L_if hE h (fun h => ?_) (fun h => ?_) <;> cbv
 · refine hN1 _ (_, m1) [] h (Nat.lt_succ_self _) trivial ?_; (cbv; (try simp only [e_rnil hR]); repeat' (first | exact trivial | exact rfl | exact Or.inr trivial | apply And.intro))
 refine hX1 _ _ ?_; cbv
 exact And.left (hQ _ _ _ rfl rfl (by cases h; subst hR; rfl))
end Gn
end Go.Proofs.YtagppjldegblhaaGreatDoor
namespace Go.Proofs.YtagppjldegblhaaGreatDoor
open Go Go.RowKit
open Ab Sh
namespace Gn
theorem r22_is_w {p0 : ByteArray} {p1 : Int} {p2 : Int} {r : Bool} (h : r22_is_g p0 p1 p2 = some r) : FunS Tryz.prog 124 [fS p0, fI .i64 p1, fI .u8 p2] (r22_is_s rw) r := by
 refine fun_w lay_ok Tryz.call124 Tryz.func124 rfl ?_
 intro A W E Q R hE hR hf hQ; rcases W with ⟨ar, cm, conj, cv, sl, sc, ct, sa, ss, ll, _, _, _, _, mi, mx, _, _, _⟩
 unfold r22_is_g at h
 rw [q_cm hE, q_sl hE, q_sa hE] at h
 cbv
 refine L_rgJ hE lay_ok h 0 (fun j1 : Bool => [(6, fB j1)]) (fun j1 => []) (fun j1 h => ?_) (fun j1 h => ?_) <;> cbv
 · refine L_if hE h (fun h => ?_) (fun h => ?_) <;> cbv
   · refine L_sin hE h fun h => ?_
     cases h; (cbv; (try simp only [e_rnil hR]); repeat' (first | exact trivial | exact rfl | exact Or.inr trivial | apply And.intro))
   cases h; (cbv; (try simp only [e_rnil hR]); repeat' (first | exact trivial | exact rfl | exact Or.inr trivial | apply And.intro))
 exact And.left (hQ _ _ _ rfl rfl (by cases h; subst hR; rfl))
theorem r22_Op_w {p0 : ByteArray} {p1 : Int} {r : Int} (h : r22_Op_g p0 p1 = some r) : FunS Tryz.prog 123 [fS p0, fI .i64 p1] (r22_Op_s rw) r := by
 refine fun_w lay_ok Tryz.call123 Tryz.func123 rfl ?_
 intro A W E Q R hE hR hf hQ; rcases W with ⟨ar, cm, conj, cv, sl, sc, ct, sa, ss, ll, _, _, _, _, mi, mx, _, _, _⟩
 unfold r22_Op_g at h
 rw [q_ar hE] at h
 cbv
 refine L_rgJ hE lay_ok h 0 (fun j1 : Bool => [(13, fB j1)]) (fun j1 => []) (fun j1 h => ?_) (fun j1 h => ?_) <;> cbv
 · refine L_call hE hR h (fun _ e => r22_is_w e) rfl rfl fun a1 h => ?_; cbv
   refine L_if hE h (fun h => ?_) (fun h => ?_) <;> cbv
   · refine L_call hE hR h (fun _ e => r22_is_w e) rfl rfl fun a2 h => ?_; cbv
     cases h; (cbv; (try simp only [e_rnil hR]); repeat' (first | exact trivial | exact rfl | exact Or.inr trivial | apply And.intro))
   cases h; (cbv; (try simp only [e_rnil hR]); repeat' (first | exact trivial | exact rfl | exact Or.inr trivial | apply And.intro))
 refine L_if hE h (fun h => ?_) (fun h => ?_) <;> cbv
 · exact And.left (hQ _ _ _ rfl rfl (by cases h; subst hR; rfl))
 refine L_call hE hR h (fun _ e => r22_is_w e) rfl rfl fun a3 h => ?_; cbv
 refine L_if hE h (fun h => ?_) (fun h => ?_) <;> cbv
 · exact And.left (hQ _ _ _ rfl rfl (by cases h; subst hR; rfl))
 refine L_rgJ hE lay_ok h 0 (fun j2 : Bool => [(25, fB j2)]) (fun j2 => []) (fun j2 h => ?_) (fun j2 h => ?_) <;> cbv
 · refine L_call hE hR h (fun _ e => r22_is_w e) rfl rfl fun a4 h => ?_; cbv
   refine L_if hE h (fun h => ?_) (fun h => ?_) <;> cbv
   · refine L_call hE hR h (fun _ e => r22_is_w e) rfl rfl fun a5 h => ?_; cbv
     cases h; (cbv; (try simp only [e_rnil hR]); repeat' (first | exact trivial | exact rfl | exact Or.inr trivial | apply And.intro))
   cases h; (cbv; (try simp only [e_rnil hR]); repeat' (first | exact trivial | exact rfl | exact Or.inr trivial | apply And.intro))
 refine L_if hE h (fun h => ?_) (fun h => ?_) <;> cbv
 · exact And.left (hQ _ _ _ rfl rfl (by cases h; subst hR; rfl))
 refine L_rgJ hE lay_ok h 0 (fun j3 : Bool => [(34, fB j3)]) (fun j3 => []) (fun j3 h => ?_) (fun j3 h => ?_) <;> cbv
 · refine L_call hE hR h (fun _ e => r22_is_w e) rfl rfl fun a6 h => ?_; cbv
   refine L_if hE h (fun h => ?_) (fun h => ?_) <;> cbv
   · refine L_call hE hR h (fun _ e => r22_is_w e) rfl rfl fun a7 h => ?_; cbv
     cases h; (cbv; (try simp only [e_rnil hR]); repeat' (first | exact trivial | exact rfl | exact Or.inr trivial | apply And.intro))
   cases h; (cbv; (try simp only [e_rnil hR]); repeat' (first | exact trivial | exact rfl | exact Or.inr trivial | apply And.intro))
 refine L_if hE h (fun h => ?_) (fun h => ?_) <;> cbv
 · exact And.left (hQ _ _ _ rfl rfl (by cases h; subst hR; rfl))
 exact And.left (hQ _ _ _ rfl rfl (by cases h; subst hR; rfl))
theorem r10_digit_w {p0 : Int} {r : Int} (h : r10_digit_g p0 = some r) : FunS Tryz.prog 162 [fI .u8 p0] (r10_digit_s rw) r := by
 refine fun_w lay_ok Tryz.call162 Tryz.func162 rfl ?_
 intro A W E Q R hE hR hf hQ; rcases W with ⟨ar, cm, conj, cv, sl, sc, ct, sa, ss, ll, _, _, _, _, mi, mx, _, _, _⟩
 unfold r10_digit_g at h
 rw [q_ar hE, q_cm hE, q_cv hE] at h
 cbv
 refine L_rgJ hE lay_ok h 0 (fun j1 : Bool => [(8, fB j1)]) (fun j1 => []) (fun j1 h => ?_) (fun j1 h => ?_) <;> cbv
 · refine L_if hE h (fun h => ?_) (fun h => ?_) <;> cbv
   · cases h; (cbv; (try simp only [e_rnil hR]); repeat' (first | exact trivial | exact rfl | exact Or.inr trivial | apply And.intro))
   cases h; (cbv; (try simp only [e_rnil hR]); repeat' (first | exact trivial | exact rfl | exact Or.inr trivial | apply And.intro))
 refine L_if hE h (fun h => ?_) (fun h => ?_) <;> cbv
 · exact And.left (hQ _ _ _ rfl rfl (by cases h; subst hR; rfl))
 refine L_rgJ hE lay_ok h 0 (fun j2 : Bool => [(17, fB j2)]) (fun j2 => []) (fun j2 h => ?_) (fun j2 h => ?_) <;> cbv
 · refine L_if hE h (fun h => ?_) (fun h => ?_) <;> cbv
   · cases h; (cbv; (try simp only [e_rnil hR]); repeat' (first | exact trivial | exact rfl | exact Or.inr trivial | apply And.intro))
   cases h; (cbv; (try simp only [e_rnil hR]); repeat' (first | exact trivial | exact rfl | exact Or.inr trivial | apply And.intro))
 refine L_if hE h (fun h => ?_) (fun h => ?_) <;> cbv
 · exact And.left (hQ _ _ _ rfl rfl (by cases h; subst hR; rfl))
 exact And.left (hQ _ _ _ rfl rfl (by cases h; subst hR; rfl))
theorem r02_Byte_w {p0 : Int} {r : ByteArray} (h : r02_Byte_g p0 = some r) : FunS Tryz.prog 163 [fI .i64 p0] (r02_Byte_s rw) r := by
 refine fun_w lay_ok Tryz.call163 Tryz.func163 rfl ?_
 intro A W E Q R hE hR hf hQ; rcases W with ⟨ar, cm, conj, cv, sl, sc, ct, sa, ss, ll, _, _, _, _, mi, mx, _, _, _⟩
 unfold r02_Byte_g at h
 rw [q_cv hE] at h
 cbv
 refine L_lit hR (e := (cI .u8)) h rfl fun l1 e h => ?_; cbv at e; rw [e]; clear e
 refine L_bok hE hR h fun s2 e h => ?_; cbv at e; rw [e]; clear e
 exact And.left (hQ _ _ _ rfl rfl (by cases h; subst hR; rfl))
theorem r10_Escape_w {p0 : ByteArray} {p1 : Int} {r : ByteArray × Int} (h : r10_Escape_g p0 p1 = some r) : FunS Tryz.prog 150 [fS p0, fI .i64 p1] (r10_Escape_s rw) r := by
 refine fun_w lay_ok Tryz.call150 Tryz.func150 rfl ?_
 intro A W E Q R hE hR hf hQ; rcases W with ⟨ar, cm, conj, cv, sl, sc, ct, sa, ss, ll, _, _, _, _, mi, mx, _, _, _⟩
 unfold r10_Escape_g at h
 rw [q_ar hE, q_cm hE, q_sl hE, q_sa hE, q_ss hE] at h
 cbv
 refine L_if hE h (fun h => ?_) (fun h => ?_) <;> cbv
 · exact And.left (hQ _ _ _ rfl rfl (by cases h; subst hR; rfl))
 refine L_rgJ hE lay_ok h 0 (fun j1 : Bool => [(26, fB j1)]) (fun j1 => []) (fun j1 h => ?_) (fun j1 h => ?_) <;> cbv
 · refine L_sin hE h fun h => ?_
   refine L_if hE h (fun h => ?_) (fun h => ?_) <;> cbv
   · cases h; (cbv; (try simp only [e_rnil hR]); repeat' (first | exact trivial | exact rfl | exact Or.inr trivial | apply And.intro))
   refine L_sin hE h fun h => ?_
   cases h; (cbv; (try simp only [e_rnil hR]); repeat' (first | exact trivial | exact rfl | exact Or.inr trivial | apply And.intro))
 refine L_if hE h (fun h => ?_) (fun h => ?_) <;> cbv
 · refine L_ssin hE h fun h => ?_
   exact And.left (hQ _ _ _ rfl rfl (by cases h; subst hR; rfl))
 refine L_sin hE h fun h => ?_
 refine L_if hE h (fun h => ?_) (fun h => ?_) <;> cbv
 · exact And.left (hQ _ _ _ rfl rfl (by cases h; subst hR; rfl))
 refine L_if hE h (fun h => ?_) (fun h => ?_) <;> cbv
 · exact And.left (hQ _ _ _ rfl rfl (by cases h; subst hR; rfl))
 refine L_sin hE h fun h => ?_
 refine L_call hE hR h (fun _ e => r10_digit_w e) rfl rfl fun a1 h => ?_; cbv
 refine L_if hE h (fun h => ?_) (fun h => ?_) <;> cbv
 · exact And.left (hQ _ _ _ rfl rfl (by cases h; subst hR; rfl))
 refine L_if hE h (fun h => ?_) (fun h => ?_) <;> cbv
 · exact And.left (hQ _ _ _ rfl rfl (by cases h; subst hR; rfl))
 refine L_sin hE h fun h => ?_
 refine L_call hE hR h (fun _ e => r10_digit_w e) rfl rfl fun a2 h => ?_; cbv
 refine L_if hE h (fun h => ?_) (fun h => ?_) <;> cbv
 · exact And.left (hQ _ _ _ rfl rfl (by cases h; subst hR; rfl))
 refine L_call hE hR h (fun _ e => r02_Byte_w e) rfl rfl fun a3 h => ?_; cbv
 exact And.left (hQ _ _ _ rfl rfl (by cases h; subst hR; rfl))
end Gn
end Go.Proofs.YtagppjldegblhaaGreatDoor
namespace Go.Proofs.YtagppjldegblhaaGreatDoor
open Go Go.RowKit
open Ab Sh
namespace Gn
theorem r10_Read_w {N : Nat} {p0 : ByteArray} {p1 : Int} {r : ByteArray × Int × GFault} (h : r10_Read_g N p0 p1 = some r) : FunS Tryz.prog 125 [fS p0, fI .i64 p1] (r10_Read_s rw) r := by
 refine fun_w lay_ok Tryz.call125 Tryz.func125 rfl ?_
 intro A W E Q R hE hR hf hQ; rcases W with ⟨ar, cm, conj, cv, sl, sc, ct, sa, ss, ll, _, _, _, _, mi, mx, _, _, _⟩
 unfold r10_Read_g at h
 rw [q_ar hE, q_cm hE, q_sl hE, q_sa hE] at h
 cbv
 refine L_rgJ hE lay_ok h 1 (fun j1 : Bool => [(18, fB j1)]) (fun j1 => []) (fun j1 h => ?_) (fun j1 h => ?_) <;> cbv
 · refine L_if hE h (fun h => ?_) (fun h => ?_) <;> cbv
   · cases h; (cbv; (try simp only [e_rnil hR]); repeat' (first | exact trivial | exact rfl | exact Or.inr trivial | apply And.intro))
   cases h; (cbv; (try simp only [e_rnil hR]); repeat' (first | exact trivial | exact rfl | exact Or.inr trivial | apply And.intro))
 refine L_if hE h (fun h => ?_) (fun h => ?_) <;> cbv
 · exact And.left (hQ _ _ _ rfl rfl (by cases h; subst hR; rfl))
 refine L_if hE h (fun h => ?_) (fun h => ?_) <;> cbv
 · exact And.left (hQ _ _ _ rfl rfl (by cases h; subst hR; rfl))
 refine L_sin hE h fun h => ?_
 refine L_if hE h (fun h => ?_) (fun h => ?_) <;> cbv
 · exact And.left (hQ _ _ _ rfl rfl (by cases h; subst hR; rfl))
 refine L_for hE lay_ok 1 (fun g : ByteArray × Int × Nat => [(4, fS ByteArray.empty), (5, fI .i64 0), (7, fS g.1), (8, fI .i64 g.2.1)]) (fun g => []) (fun g => r10_Read_l1 N p0 g.2.2 g.1 g.2.1 = some r) (fun g => g.2.2) (_, _, N) h ?_ ?_
 · (cbv; (try simp only [e_rnil hR]); repeat' (first | exact trivial | exact rfl | exact Or.inr trivial | apply And.intro))
 rintro ⟨v1, v2, m1⟩ h Q1 hN1 hT1 hX1
 have h : r10_Read_l1 N p0 m1 v1 v2 = some r := h
 cases m1 with
 | zero => exact nomatch (show (none : Option _) = some _ from h)
 | succ m1 =>
 rw [r10_Read_l1] at h
 rw [q_ar hE, q_cm hE, q_sl hE, q_ct hE, q_sa hE, q_ss hE] at h
 cbv
 refine L_if hE h (fun h => ?_) (fun h => ?_) <;> cbv
 · refine L_sin hE h fun h => ?_
   refine L_if hE h (fun h => ?_) (fun h => ?_) <;> cbv
   · refine hT1 _ ?_
     exact And.left (hQ _ _ _ rfl rfl (by cases h; subst hR; rfl))
   refine L_ssin hE h fun h => ?_
   refine L_sin hE h fun h => ?_
   refine L_cdJ hE lay_ok h 1 (fun j5 : ByteArray × Int => [(9, fS j5.1), (10, fI .i64 j5.2)]) (fun j5 => []) (fun j5 h => ?_) (fun j5 h => ?_) <;> cbv
   · refine L_if hE h (fun h => ?_) (fun h => ?_) <;> cbv
     · refine L_call hE hR h (fun _ e => r10_Escape_w e) rfl rfl fun a3 h => ?_; cbv
       cases h; (cbv; (try simp only [e_rnil hR]); repeat' (first | exact trivial | exact rfl | exact Or.inr trivial | apply And.intro))
     refine L_call hE hR h (fun _ e => r10_safe_w e) rfl rfl fun a4 h => ?_; cbv
     refine L_cdJ hE lay_ok h 1 (fun j4 : ByteArray × Int => [(9, fS j4.1), (10, fI .i64 j4.2)]) (fun j4 => []) (fun j4 h => ?_) (fun j4 h => ?_) <;> cbv
     · refine L_if hE h (fun h => ?_) (fun h => ?_) <;> cbv
       · refine L_call hE hR h (fun _ e => r10_Rune_w e) rfl rfl fun a5 h => ?_; cbv
         refine L_ssin hE h fun h => ?_
         cases h; (cbv; (try simp only [e_rnil hR]); repeat' (first | exact trivial | exact rfl | exact Or.inr trivial | apply And.intro))
       cases h; (cbv; (try simp only [e_rnil hR]); repeat' (first | exact trivial | exact rfl | exact Or.inr trivial | apply And.intro))
     cases h; (cbv; (try simp only [e_rnil hR]); repeat' (first | exact trivial | exact rfl | exact Or.inr trivial | apply And.intro))
   refine L_if hE h (fun h => ?_) (fun h => ?_) <;> cbv
   · refine hT1 _ ?_
     exact And.left (hQ _ _ _ rfl rfl (by cases h; subst hR; rfl))
   refine L_if hE h (fun h => ?_) (fun h => ?_) <;> cbv
   · refine hT1 _ ?_
     exact And.left (hQ _ _ _ rfl rfl (by cases h; subst hR; rfl))
   refine L_ct hE h fun h => ?_
   refine hN1 _ (_, _, m1) [] h (Nat.lt_succ_self _) trivial ?_; (cbv; (try simp only [e_rnil hR]); repeat' (first | exact trivial | exact rfl | exact Or.inr trivial | apply And.intro))
 refine hX1 _ _ ?_; cbv
 exact And.left (hQ _ _ _ rfl rfl (by cases h; subst hR; rfl))
theorem r22_Take_w {N : Nat} {p0 : ByteArray} {p1 : Int} {r : GMatcher × Int × GFault} (h : r22_Take_g N p0 p1 = some r) : FunS Tryz.prog 87 [fS p0, fI .i64 p1] (r22_Take_s rw) r := by
 refine fun_w lay_ok Tryz.call87 Tryz.func87 rfl ?_
 intro A W E Q R hE hR hf hQ; rcases W with ⟨ar, cm, conj, cv, sl, sc, ct, sa, ss, ll, _, _, _, _, mi, mx, _, _, _⟩
 unfold r22_Take_g at h
 rw [q_ar hE, q_cm hE, q_sl hE, q_ss hE] at h
 cbv
 refine L_rgJ hE lay_ok h 2 (fun j1 : Bool => [(21, fB j1)]) (fun j1 => []) (fun j1 h => ?_) (fun j1 h => ?_) <;> cbv
 · refine L_if hE h (fun h => ?_) (fun h => ?_) <;> cbv
   · cases h; (cbv; (try simp only [e_rnil hR]); repeat' (first | exact trivial | exact rfl | exact Or.inr trivial | apply And.intro))
   cases h; (cbv; (try simp only [e_rnil hR]); repeat' (first | exact trivial | exact rfl | exact Or.inr trivial | apply And.intro))
 refine L_if hE h (fun h => ?_) (fun h => ?_) <;> cbv
 · refine L_call hE hR h (fun _ e => r22_bad_w e) rfl rfl fun a1 h => ?_; cbv
   exact And.left (hQ _ _ _ rfl rfl (by cases h; subst hR; rfl))
 refine L_if hE h (fun h => ?_) (fun h => ?_) <;> cbv
 · refine L_call hE hR h (fun _ e => r22_bad_w e) rfl rfl fun a2 h => ?_; cbv
   exact And.left (hQ _ _ _ rfl rfl (by cases h; subst hR; rfl))
 refine L_call hE hR h (fun _ e => r09_Signs_w e) rfl rfl fun a3 h => ?_; cbv
 refine L_rgJ hE lay_ok h 2 (fun j2 : Bool => [(43, fB j2)]) (fun j2 => []) (fun j2 h => ?_) (fun j2 h => ?_) <;> cbv
 · refine L_if hE h (fun h => ?_) (fun h => ?_) <;> cbv
   · cases h; (cbv; (try simp only [e_rnil hR]); repeat' (first | exact trivial | exact rfl | exact Or.inr trivial | apply And.intro))
   cases h; (cbv; (try simp only [e_rnil hR]); repeat' (first | exact trivial | exact rfl | exact Or.inr trivial | apply And.intro))
 refine L_if hE h (fun h => ?_) (fun h => ?_) <;> cbv
 · refine L_call hE hR h (fun _ e => r22_bad_w e) rfl rfl fun a4 h => ?_; cbv
   exact And.left (hQ _ _ _ rfl rfl (by cases h; subst hR; rfl))
 refine L_call hE hR h (fun _ e => r22_Op_w e) rfl rfl fun a5 h => ?_; cbv
 refine L_rgJ hE lay_ok h 2 (fun j3 : Bool => [(62, fB j3)]) (fun j3 => []) (fun j3 h => ?_) (fun j3 h => ?_) <;> cbv
 · refine L_if hE h (fun h => ?_) (fun h => ?_) <;> cbv
   · cases h; (cbv; (try simp only [e_rnil hR]); repeat' (first | exact trivial | exact rfl | exact Or.inr trivial | apply And.intro))
   cases h; (cbv; (try simp only [e_rnil hR]); repeat' (first | exact trivial | exact rfl | exact Or.inr trivial | apply And.intro))
 refine L_if hE h (fun h => ?_) (fun h => ?_) <;> cbv
 · refine L_call hE hR h (fun _ e => r22_bad_w e) rfl rfl fun a6 h => ?_; cbv
   exact And.left (hQ _ _ _ rfl rfl (by cases h; subst hR; rfl))
 refine L_rgJ hE lay_ok h 2 (fun j4 : Bool => [(81, fB j4)]) (fun j4 => []) (fun j4 h => ?_) (fun j4 h => ?_) <;> cbv
 · refine L_if hE h (fun h => ?_) (fun h => ?_) <;> cbv
   · refine L_call hE hR h (fun _ e => r22_is_w e) rfl rfl fun a7 h => ?_; cbv
     refine L_if hE h (fun h => ?_) (fun h => ?_) <;> cbv
     · cases h; (cbv; (try simp only [e_rnil hR]); repeat' (first | exact trivial | exact rfl | exact Or.inr trivial | apply And.intro))
     cases h; (cbv; (try simp only [e_rnil hR]); repeat' (first | exact trivial | exact rfl | exact Or.inr trivial | apply And.intro))
   cases h; (cbv; (try simp only [e_rnil hR]); repeat' (first | exact trivial | exact rfl | exact Or.inr trivial | apply And.intro))
 refine L_if hE h (fun h => ?_) (fun h => ?_) <;> cbv
 · refine L_call hE hR h (fun _ e => r22_bad_w e) rfl rfl fun a8 h => ?_; cbv
   exact And.left (hQ _ _ _ rfl rfl (by cases h; subst hR; rfl))
 refine L_if hE h (fun h => ?_) (fun h => ?_) <;> cbv
 · refine L_call hE hR h (fun _ e => r22_bad_w e) rfl rfl fun a9 h => ?_; cbv
   exact And.left (hQ _ _ _ rfl rfl (by cases h; subst hR; rfl))
 refine L_call hE hR h (fun _ e => r22_Sign_w e) rfl rfl fun a10 h => ?_; cbv
 refine L_call hE hR h (fun _ e => r10_Read_w e) rfl rfl fun a11 h => ?_; cbv
 refine L_if hE h (fun h => ?_) (fun h => ?_) <;> cbv
 · refine L_call hE hR h (fun _ e => r22_bad_w e) rfl rfl fun a12 h => ?_; cbv
   exact And.left (hQ _ _ _ rfl rfl (by cases h; subst hR; rfl))
 refine L_ssin hE h fun h => ?_
 refine L_call hE hR h (fun _ e => r22_Right_w e) rfl rfl fun a13 h => ?_; cbv
 refine L_if hE h (fun h => ?_) (fun h => ?_) <;> cbv
 · refine L_call hE hR h (fun _ e => r22_Right_w e) rfl rfl fun a14 h => ?_; cbv
   refine L_call hE hR h (fun _ e => r22_bad_w e) rfl rfl fun a15 h => ?_; cbv
   exact And.left (hQ _ _ _ rfl rfl (by cases h; subst hR; rfl))
 exact And.left (hQ _ _ _ rfl rfl (by cases h; subst hR; rfl))
theorem r23_Take_w {N : Nat} {p0 : ByteArray} {p1 : Int} {r : (List GMatcher) × Int × GFault} (h : r23_Take_g N p0 p1 = some r) : FunS Tryz.prog 63 [fS p0, fI .i64 p1] (r23_Take_s rw) r := by
 refine fun_w lay_ok Tryz.call63 Tryz.func63 rfl ?_
 intro A W E Q R hE hR hf hQ; rcases W with ⟨ar, cm, conj, cv, sl, sc, ct, sa, ss, ll, _, _, _, _, mi, mx, _, _, _⟩
 unfold r23_Take_g at h
 rw [q_ar hE, q_cm hE, q_sl hE] at h
 cbv
 refine L_rgJ hE lay_ok h 1 (fun j1 : Bool => [(19, fB j1)]) (fun j1 => []) (fun j1 h => ?_) (fun j1 h => ?_) <;> cbv
 · refine L_if hE h (fun h => ?_) (fun h => ?_) <;> cbv
   · cases h; (cbv; (try simp only [e_rnil hR]); repeat' (first | exact trivial | exact rfl | exact Or.inr trivial | apply And.intro))
   cases h; (cbv; (try simp only [e_rnil hR]); repeat' (first | exact trivial | exact rfl | exact Or.inr trivial | apply And.intro))
 refine L_if hE h (fun h => ?_) (fun h => ?_) <;> cbv
 · exact And.left (hQ _ _ _ rfl rfl (by cases h; subst hR; rfl))
 refine L_call hE hR h (fun _ e => r23_is_w e) rfl rfl fun a1 h => ?_; cbv
 refine L_if hE h (fun h => ?_) (fun h => ?_) <;> cbv
 · refine L_call hE hR h (fun _ e => r23_other_w e) rfl rfl fun a2 h => ?_; cbv
   exact And.left (hQ _ _ _ rfl rfl (by cases h; subst hR; rfl))
 refine L_call hE hR h (fun _ e => r23_is_w e) rfl rfl fun a3 h => ?_; cbv
 refine L_if hE h (fun h => ?_) (fun h => ?_) <;> cbv
 · exact And.left (hQ _ _ _ rfl rfl (by cases h; subst hR; rfl))
 refine L_for hE lay_ok 1 (fun g : Int × (List GMatcher) × Nat => [(4, vNil), (5, fI .i64 0), (7, .lst 1), (8, fI .i64 g.1)]) (fun g => [(1, .list 68 3 (R _ cMatcher g.2.1))]) (fun g => r23_Take_l1 N p0 g.2.2 g.1 g.2.1 = some r) (fun g => g.2.2) (_, _, N) h ?_ ?_
 · (cbv; (try simp only [e_rnil hR]); repeat' (first | exact trivial | exact rfl | exact Or.inr trivial | apply And.intro))
 rintro ⟨v4, v5, m1⟩ h Q1 hN1 hT1 hX1
 have h : r23_Take_l1 N p0 m1 v4 v5 = some r := h
 cases m1 with
 | zero => exact nomatch (show (none : Option _) = some _ from h)
 | succ m1 =>
 rw [r23_Take_l1] at h
 rw [q_ar hE, q_cm hE, q_sl hE, q_ll hE, ← hR] at h
 cbv
 refine L_if hE h (fun h => ?_) (fun h => ?_) <;> cbv
 · refine L_if hE h (fun h => ?_) (fun h => ?_) <;> cbv
   · refine hT1 _ ?_
     exact And.left (hQ _ _ _ rfl rfl (by cases h; subst hR; rfl))
   refine L_call hE hR h (fun _ e => r22_Take_w e) rfl rfl fun a6 h => ?_; cbv
   refine L_if hE h (fun h => ?_) (fun h => ?_) <;> cbv
   · refine L_tail hE lay_ok (by kernel_rfl) 3 (by kernel_rfl) ?_; cbv
     refine hT1 _ ?_
     exact And.left (hQ _ _ _ rfl rfl (by cases h; subst hR; rfl))
   refine L_appL hE hR h rfl (hf _) (fun _ => rfl) (by decide) fun l7 e h => ?_; cbv at e; rw [e]; clear e
   refine L_call hE hR h (fun _ e => r23_is_w e) rfl rfl fun a8 h => ?_; cbv
   refine L_if hE h (fun h => ?_) (fun h => ?_) <;> cbv
   · refine hT1 _ ?_
     exact And.left (hQ _ _ _ rfl rfl (by cases h; subst hR; rfl))
   refine L_call hE hR h (fun _ e => r23_is_w e) rfl rfl fun a9 h => ?_; cbv
   refine L_if hE h (fun h => ?_) (fun h => ?_) <;> cbv
   · refine L_call hE hR h (fun _ e => r23_other_w e) rfl rfl fun a10 h => ?_; cbv
     refine hT1 _ ?_
     exact And.left (hQ _ _ _ rfl rfl (by cases h; subst hR; rfl))
   refine L_call hE hR h (fun _ e => r23_is_w e) rfl rfl fun a11 h => ?_; cbv
   refine L_if hE h (fun h => ?_) (fun h => ?_) <;> cbv
   · refine L_call hE hR h (fun _ e => r23_other_w e) rfl rfl fun a12 h => ?_; cbv
     refine hT1 _ ?_
     exact And.left (hQ _ _ _ rfl rfl (by cases h; subst hR; rfl))
   refine hN1 _ (_, _, m1) [] h (Nat.lt_succ_self _) trivial ?_; (cbv; (try simp only [e_rnil hR]); repeat' (first | exact trivial | exact rfl | exact Or.inr trivial | apply And.intro))
 refine hX1 _ _ ?_; cbv
 exact And.left (hQ _ _ _ rfl rfl (by cases h; subst hR; rfl))
theorem r23_Parse_w {N : Nat} {p0 : ByteArray} {r : (List GMatcher) × GFault} (h : r23_Parse_g N p0 = some r) : FunS Tryz.prog 42 [fS p0] (r23_Parse_s rw) r := by
 refine fun_w lay_ok Tryz.call42 Tryz.func42 rfl ?_
 intro A W E Q R hE hR hf hQ; rcases W with ⟨ar, cm, conj, cv, sl, sc, ct, sa, ss, ll, _, _, _, _, mi, mx, _, _, _⟩
 unfold r23_Parse_g at h
 rw [q_cm hE, q_sl hE] at h
 cbv
 refine L_call hE hR h (fun _ e => r23_Take_w e) rfl rfl fun a1 h => ?_; cbv
 refine L_rgJ hE lay_ok h 2 (fun j1 : Bool => [(21, fB j1)]) (fun j1 => []) (fun j1 h => ?_) (fun j1 h => ?_) <;> cbv
 · refine L_if hE h (fun h => ?_) (fun h => ?_) <;> cbv
   · cases h; (cbv; (try simp only [e_rnil hR]); repeat' (first | exact trivial | exact rfl | exact Or.inr trivial | apply And.intro))
   cases h; (cbv; (try simp only [e_rnil hR]); repeat' (first | exact trivial | exact rfl | exact Or.inr trivial | apply And.intro))
 refine L_if hE h (fun h => ?_) (fun h => ?_) <;> cbv
 · exact And.left (hQ _ _ _ rfl rfl (by cases h; subst hR; rfl))
 refine L_tail hE lay_ok (by kernel_rfl) 3 (by kernel_rfl) ?_; cbv
 exact And.left (hQ _ _ _ rfl rfl (by cases h; subst hR; rfl))
theorem r27_Parse_w {N : Nat} {p0 : ByteArray} {r : GCaveat × Bool} (h : r27_Parse_g N p0 = some r) : FunS Tryz.prog 15 [fS p0] (r27_Parse_s rw) r := by
 refine fun_w lay_ok Tryz.call15 Tryz.func15 rfl ?_
 intro A W E Q R hE hR hf hQ; rcases W with ⟨ar, cm, conj, cv, sl, sc, ct, sa, ss, ll, _, _, _, _, mi, mx, _, _, _⟩
 unfold r27_Parse_g at h
 rw [q_cm hE, q_sl hE] at h
 cbv
 refine L_if hE h (fun h => ?_) (fun h => ?_) <;> cbv
 · exact And.left (hQ _ _ _ rfl rfl (by cases h; subst hR; rfl))
 refine L_for hE lay_ok 1 (fun g : Int × Nat => [(3, fB false), (4, fI .i64 g.1)]) (fun g => []) (fun g => r27_Parse_l1 N p0 g.2 g.1 = some r) (fun g => g.2) (_, N) h ?_ ?_
 · (cbv; (try simp only [e_rnil hR]); repeat' (first | exact trivial | exact rfl | exact Or.inr trivial | apply And.intro))
 rintro ⟨v1, m1⟩ h Q1 hN1 hT1 hX1
 have h : r27_Parse_l1 N p0 m1 v1 = some r := h
 cases m1 with
 | zero => exact nomatch (show (none : Option _) = some _ from h)
 | succ m1 =>
 rw [r27_Parse_l1] at h
 rw [q_ar hE, q_cm hE, q_sl hE, q_sc hE, q_ct hE, q_ss hE] at h
 cbv
 refine L_if hE h (fun h => ?_) (fun h => ?_) <;> cbv
 · refine L_call hE hR h (fun _ e => r27_First_w e) rfl rfl fun a2 h => ?_; cbv
   refine L_ct hE h fun h => ?_
   refine L_rgJ hE lay_ok h 1 (fun j5 : Bool => [(33, fB j5)]) (fun j5 => []) (fun j5 h => ?_) (fun j5 h => ?_) <;> cbv
   · refine L_if hE h (fun h => ?_) (fun h => ?_) <;> cbv
     · cases h; (cbv; (try simp only [e_rnil hR]); repeat' (first | exact trivial | exact rfl | exact Or.inr trivial | apply And.intro))
     refine L_ssin hE h fun h => ?_
     cases h; (cbv; (try simp only [e_rnil hR]); repeat' (first | exact trivial | exact rfl | exact Or.inr trivial | apply And.intro))
   refine L_if hE h (fun h => ?_) (fun h => ?_) <;> cbv
   · refine hN1 _ (_, m1) [] h (Nat.lt_succ_self _) trivial ?_; (cbv; (try simp only [e_rnil hR]); repeat' (first | exact trivial | exact rfl | exact Or.inr trivial | apply And.intro))
   refine L_ssin hE h fun h => ?_
   refine L_cd hE lay_ok ?_; cbv
   refine L_if hE h (fun h => ?_) (fun h => ?_) <;> cbv
   · refine L_call hE hR h (fun _ e => r09_Pieces_w e) rfl rfl fun a3 h => ?_; cbv
     refine L_rgJ hE lay_ok h 2 (fun j6 : Bool => [(68, fB j6)]) (fun j6 => []) (fun j6 h => ?_) (fun j6 h => ?_) <;> cbv
     · refine L_call hE hR h (fun _ e => r27_Right_w e) (by subst hR; rfl) rfl fun a4 h => ?_; cbv
       refine L_if hE h (fun h => ?_) (fun h => ?_) <;> cbv
       · refine L_call hE hR h (fun _ e => r27_Text_w e) (by subst hR; rfl) rfl fun a5 h => ?_; cbv
         cases h; (cbv; (try simp only [e_rnil hR]); repeat' (first | exact trivial | exact rfl | exact Or.inr trivial | apply And.intro))
       cases h; (cbv; (try simp only [e_rnil hR]); repeat' (first | exact trivial | exact rfl | exact Or.inr trivial | apply And.intro))
     refine L_if hE h (fun h => ?_) (fun h => ?_) <;> cbv
     · refine hT1 _ ?_
       exact And.left (hQ _ _ _ rfl rfl (by cases h; subst hR; rfl))
     refine hN1 _ (_, m1) [] h (Nat.lt_succ_self _) trivial ?_; (cbv; (try simp only [e_rnil hR]); repeat' (first | exact trivial | exact rfl | exact Or.inr trivial | apply And.intro))
   refine L_cd hE lay_ok ?_; cbv
   refine L_if hE h (fun h => ?_) (fun h => ?_) <;> cbv
   · refine L_call hE hR h (fun _ e => r27_digits_w e) rfl rfl fun a6 h => ?_; cbv
     refine L_rgJ hE lay_ok h 2 (fun j7 : Bool => [(68, fB j7)]) (fun j7 => []) (fun j7 h => ?_) (fun j7 h => ?_) <;> cbv
     · refine L_call hE hR h (fun _ e => r27_Right_w e) (by subst hR; rfl) rfl fun a7 h => ?_; cbv
       refine L_if hE h (fun h => ?_) (fun h => ?_) <;> cbv
       · refine L_call hE hR h (fun _ e => r27_Text_w e) (by subst hR; rfl) rfl fun a8 h => ?_; cbv
         cases h; (cbv; (try simp only [e_rnil hR]); repeat' (first | exact trivial | exact rfl | exact Or.inr trivial | apply And.intro))
       cases h; (cbv; (try simp only [e_rnil hR]); repeat' (first | exact trivial | exact rfl | exact Or.inr trivial | apply And.intro))
     refine L_if hE h (fun h => ?_) (fun h => ?_) <;> cbv
     · refine hT1 _ ?_
       exact And.left (hQ _ _ _ rfl rfl (by cases h; subst hR; rfl))
     refine hN1 _ (_, m1) [] h (Nat.lt_succ_self _) trivial ?_; (cbv; (try simp only [e_rnil hR]); repeat' (first | exact trivial | exact rfl | exact Or.inr trivial | apply And.intro))
   refine L_call hE hR h (fun _ e => r23_Parse_w e) rfl rfl fun a9 h => ?_; cbv
   refine L_if hE h (fun h => ?_) (fun h => ?_) <;> cbv
   · refine hT1 _ ?_
     exact And.left (hQ _ _ _ rfl rfl (by cases h; subst hR; rfl))
   refine L_rgJ hE lay_ok h 3 (fun j8 : Bool => [(68, fB j8)]) (fun j8 => []) (fun j8 h => ?_) (fun j8 h => ?_) <;> cbv
   · refine L_call hE hR h (fun _ e => r27_Right_w e) (by subst hR; rfl) rfl fun a10 h => ?_; cbv
     refine L_if hE h (fun h => ?_) (fun h => ?_) <;> cbv
     · refine L_call hE hR h (fun _ e => r27_Text_w e) (by subst hR; rfl) rfl fun a11 h => ?_; cbv
       cases h; (cbv; (try simp only [e_rnil hR]); repeat' (first | exact trivial | exact rfl | exact Or.inr trivial | apply And.intro))
     cases h; (cbv; (try simp only [e_rnil hR]); repeat' (first | exact trivial | exact rfl | exact Or.inr trivial | apply And.intro))
   refine L_if hE h (fun h => ?_) (fun h => ?_) <;> cbv
   · refine hT1 _ ?_
     exact And.left (hQ _ _ _ rfl rfl (by cases h; subst hR; rfl))
   refine hN1 _ (_, m1) [] h (Nat.lt_succ_self _) trivial ?_; (cbv; (try simp only [e_rnil hR]); repeat' (first | exact trivial | exact rfl | exact Or.inr trivial | apply And.intro))
 refine hX1 _ _ ?_; cbv
 exact And.left (hQ _ _ _ rfl rfl (by cases h; subst hR; rfl))
end Gn
end Go.Proofs.YtagppjldegblhaaGreatDoor
namespace Go.Proofs.YtagppjldegblhaaGreatDoor
open Go Go.RowKit
open Ab Sh
namespace Gn
theorem l27_CaveatReads_w {N : Nat} {p0 : ByteArray} {r : Bool} (h : l27_CaveatReads_g N p0 = some r) : FunS Tryz.prog 4 [fS p0] (l27_CaveatReads_s rw) r := by
 refine fun_w lay_ok Tryz.call4 Tryz.func4 rfl ?_
 intro A W E Q R hE hR hf hQ; rcases W with ⟨ar, cm, conj, cv, sl, sc, ct, sa, ss, ll, _, _, _, _, mi, mx, _, _, _⟩
 unfold l27_CaveatReads_g at h
 rw [q_cm hE, q_conj hE, q_sl hE] at h
 cbv
 refine L_rgJ hE lay_ok h 0 (fun j1 : Bool => [(19, fB j1)]) (fun j1 => []) (fun j1 h => ?_) (fun j1 h => ?_) <;> cbv
 · refine L_if hE h (fun h => ?_) (fun h => ?_) <;> cbv
   · refine L_if hE h (fun h => ?_) (fun h => ?_) <;> cbv
     · cases h; (cbv; (try simp only [e_rnil hR]); repeat' (first | exact trivial | exact rfl | exact Or.inr trivial | apply And.intro))
     cases h; (cbv; (try simp only [e_rnil hR]); repeat' (first | exact trivial | exact rfl | exact Or.inr trivial | apply And.intro))
   cases h; (cbv; (try simp only [e_rnil hR]); repeat' (first | exact trivial | exact rfl | exact Or.inr trivial | apply And.intro))
 refine L_if hE h (fun h => ?_) (fun h => ?_) <;> cbv
 · refine L_call hE hR h (fun _ e => l27_works_w e) rfl rfl fun a1 h => ?_; cbv
   exact And.left (hQ _ _ _ rfl rfl (by cases h; subst hR; rfl))
 refine L_call hE hR h (fun _ e => caveat_Parse_w e) rfl rfl fun a2 h => ?_; cbv
 refine L_call hE hR h (fun _ e => r27_Parse_w e) rfl rfl fun a3 h => ?_; cbv
 refine L_rgJ hE lay_ok h 2 (fun j2 : Bool => [(2, fB j2)]) (fun j2 => []) (fun j2 h => ?_) (fun j2 h => ?_) <;> cbv
 · refine L_call hE hR h (fun _ e => porterbase_SameCaveat_w e) (by subst hR; rfl) rfl fun a4 h => ?_; cbv
   refine L_if hE h (fun h => ?_) (fun h => ?_) <;> cbv
   · refine L_if hE h (fun h => ?_) (fun h => ?_) <;> cbv
     · refine L_call hE hR h (fun _ e => l27_works_w e) rfl rfl fun a5 h => ?_; cbv
       cases h; (cbv; (try simp only [e_rnil hR]); repeat' (first | exact trivial | exact rfl | exact Or.inr trivial | apply And.intro))
     cases h; (cbv; (try simp only [e_rnil hR]); repeat' (first | exact trivial | exact rfl | exact Or.inr trivial | apply And.intro))
   cases h; (cbv; (try simp only [e_rnil hR]); repeat' (first | exact trivial | exact rfl | exact Or.inr trivial | apply And.intro))
 exact And.left (hQ _ _ _ rfl rfl (by cases h; subst hR; rfl))
end Gn
end Go.Proofs.YtagppjldegblhaaGreatDoor
