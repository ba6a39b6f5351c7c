/- The bodies do what the plain functions tell. -/
import Derived.Test.YtampjnpnekekiaaGreatDoorK118
import Derived.Test.YtampjnpnekekiaaGreatDoorK124
import Derived.ProofKit
import Derived.OpenShut
import Derived.ShutString
import Derived.Carry
import Derived.LaidMore
import Derived.Deep.DeepHandedRow
import Derived.Test.YtampjnpnekekiaaGreatDoorK111
namespace Go.Proofs.YtampjnpnekekiaaGreatDoor
open Go Go.RowKit
set_option linter.unusedVariables false
set_option linter.unusedSimpArgs false
set_option maxRecDepth 100000
set_option maxHeartbeats 4000000
open Ab Sh
namespace Gn
theorem r10_safe_w {N : Nat} {p0 : ByteArray} {p1 : Int} {r : Bool} (h : r10_safe_g N p0 p1 = some r) : FunS Tryz.prog 60 [fS p0, fI .i64 p1] (r10_safe_s rw) r := by
  refine fun_w lay_ok Tryz.call60 Tryz.func60 rfl ?_
  intro A W E Q R hE hR hf hQ; rcases W with ⟨ar, cm, conj, cv, sl, sc, ct, sa, ss, ll, _, _, _, _, mi, mx, _, _, _⟩
  unfold r10_safe_g at h
  rw [q_cm hE, q_sa hE] at h
  cbv
  refine L_rgJ hE lay_ok h 0 (fun j1 : Bool => [(4, fB j1)]) (fun j1 => []) (fun j1 h => ?_) (fun j1 h => ?_) <;> cbv
  · refine L_call hE hR h (fun _ e => r10_Rune_w e) rfl rfl fun a1 h => ?_; cbv
    refine L_if hE h (fun h => ?_) (fun h => ?_) <;> cbv
    · refine L_sin hE h fun h => ?_
      refine L_if hE h (fun h => ?_) (fun h => ?_) <;> cbv
      · refine L_sin hE h fun h => ?_
        cases h; (cbv; (try simp only [e_rnil hR]); repeat' (first | exact trivial | exact rfl | exact Or.inr trivial | apply And.intro))
      cases h; (cbv; (try simp only [e_rnil hR]); repeat' (first | exact trivial | exact rfl | exact Or.inr trivial | apply And.intro))
    cases h; (cbv; (try simp only [e_rnil hR]); repeat' (first | exact trivial | exact rfl | exact Or.inr trivial | apply And.intro))
  exact And.left (hQ _ _ _ rfl rfl (by cases h; subst hR; rfl))
theorem r10_Read_w {N : Nat} {p0 : ByteArray} {p1 : Int} {r : ByteArray × Int × GFault} (h : r10_Read_g N p0 p1 = some r) : FunS Tryz.prog 37 [fS p0, fI .i64 p1] (r10_Read_s rw) r := by
  refine fun_w lay_ok Tryz.call37 Tryz.func37 rfl ?_
  intro A W E Q R hE hR hf hQ; rcases W with ⟨ar, cm, conj, cv, sl, sc, ct, sa, ss, ll, _, _, _, _, mi, mx, _, _, _⟩
  unfold r10_Read_g at h
  rw [q_ar hE, q_cm hE, q_sl hE, q_sa hE] at h
  cbv
  refine L_rgJ hE lay_ok h 1 (fun j1 : Bool => [(18, fB j1)]) (fun j1 => []) (fun j1 h => ?_) (fun j1 h => ?_) <;> cbv
  · refine L_if hE h (fun h => ?_) (fun h => ?_) <;> cbv
    · cases h; (cbv; (try simp only [e_rnil hR]); repeat' (first | exact trivial | exact rfl | exact Or.inr trivial | apply And.intro))
    cases h; (cbv; (try simp only [e_rnil hR]); repeat' (first | exact trivial | exact rfl | exact Or.inr trivial | apply And.intro))
  refine L_if hE h (fun h => ?_) (fun h => ?_) <;> cbv
  · exact And.left (hQ _ _ _ rfl rfl (by cases h; subst hR; rfl))
  refine L_if hE h (fun h => ?_) (fun h => ?_) <;> cbv
  · exact And.left (hQ _ _ _ rfl rfl (by cases h; subst hR; rfl))
  refine L_sin hE h fun h => ?_
  refine L_if hE h (fun h => ?_) (fun h => ?_) <;> cbv
  · exact And.left (hQ _ _ _ rfl rfl (by cases h; subst hR; rfl))
  refine L_for hE lay_ok 1 (fun g : ByteArray × Int × Nat => [(4, fS ByteArray.empty), (5, fI .i64 0), (7, fS g.1), (8, fI .i64 g.2.1)]) (fun g => []) (fun g => r10_Read_l1 N p0 g.2.2 g.1 g.2.1 = some r) (fun g => g.2.2) (_, _, N) h ?_ ?_
  · (cbv; (try simp only [e_rnil hR]); repeat' (first | exact trivial | exact rfl | exact Or.inr trivial | apply And.intro))
  rintro ⟨v1, v2, m1⟩ h Q1 hN1 hT1 hX1
  have h : r10_Read_l1 N p0 m1 v1 v2 = some r := h
  cases m1 with
  | zero => exact nomatch (show (none : Option _) = some _ from h)
  | succ m1 =>
  rw [r10_Read_l1] at h
  rw [q_ar hE, q_cm hE, q_sl hE, q_ct hE, q_sa hE, q_ss hE] at h
  cbv
  refine L_if hE h (fun h => ?_) (fun h => ?_) <;> cbv
  · refine L_sin hE h fun h => ?_
    refine L_if hE h (fun h => ?_) (fun h => ?_) <;> cbv
    · refine hT1 _ ?_
      exact And.left (hQ _ _ _ rfl rfl (by cases h; subst hR; rfl))
    refine L_ssin hE h fun h => ?_
    refine L_sin hE h fun h => ?_
    refine L_cdJ hE lay_ok h 1 (fun j5 : ByteArray × Int => [(9, fS j5.1), (10, fI .i64 j5.2)]) (fun j5 => []) (fun j5 h => ?_) (fun j5 h => ?_) <;> cbv
    · refine L_if hE h (fun h => ?_) (fun h => ?_) <;> cbv
      · refine L_call hE hR h (fun _ e => r10_Escape_w e) rfl rfl fun a3 h => ?_; cbv
        cases h; (cbv; (try simp only [e_rnil hR]); repeat' (first | exact trivial | exact rfl | exact Or.inr trivial | apply And.intro))
      refine L_call hE hR h (fun _ e => r10_safe_w e) rfl rfl fun a4 h => ?_; cbv
      refine L_cdJ hE lay_ok h 1 (fun j4 : ByteArray × Int => [(9, fS j4.1), (10, fI .i64 j4.2)]) (fun j4 => []) (fun j4 h => ?_) (fun j4 h => ?_) <;> cbv
      · refine L_if hE h (fun h => ?_) (fun h => ?_) <;> cbv
        · refine L_call hE hR h (fun _ e => r10_Rune_w e) rfl rfl fun a5 h => ?_; cbv
          refine L_ssin hE h fun h => ?_
          cases h; (cbv; (try simp only [e_rnil hR]); repeat' (first | exact trivial | exact rfl | exact Or.inr trivial | apply And.intro))
        cases h; (cbv; (try simp only [e_rnil hR]); repeat' (first | exact trivial | exact rfl | exact Or.inr trivial | apply And.intro))
      cases h; (cbv; (try simp only [e_rnil hR]); repeat' (first | exact trivial | exact rfl | exact Or.inr trivial | apply And.intro))
    refine L_if hE h (fun h => ?_) (fun h => ?_) <;> cbv
    · refine hT1 _ ?_
      exact And.left (hQ _ _ _ rfl rfl (by cases h; subst hR; rfl))
    refine L_if hE h (fun h => ?_) (fun h => ?_) <;> cbv
    · refine hT1 _ ?_
      exact And.left (hQ _ _ _ rfl rfl (by cases h; subst hR; rfl))
    refine L_ct hE h fun h => ?_
    refine hN1 _ (_, _, m1) [] h (Nat.lt_succ_self _) trivial ?_; (cbv; (try simp only [e_rnil hR]); repeat' (first | exact trivial | exact rfl | exact Or.inr trivial | apply And.intro))
  refine hX1 _ _ ?_; cbv
  exact And.left (hQ _ _ _ rfl rfl (by cases h; subst hR; rfl))
theorem r22_Take_w {N : Nat} {p0 : ByteArray} {p1 : Int} {r : GMatcher × Int × GFault} (h : r22_Take_g N p0 p1 = some r) : FunS Tryz.prog 15 [fS p0, fI .i64 p1] (r22_Take_s rw) r := by
  refine fun_w lay_ok Tryz.call15 Tryz.func15 rfl ?_
  intro A W E Q R hE hR hf hQ; rcases W with ⟨ar, cm, conj, cv, sl, sc, ct, sa, ss, ll, _, _, _, _, mi, mx, _, _, _⟩
  unfold r22_Take_g at h
  rw [q_ar hE, q_cm hE, q_sl hE, q_ss hE] at h
  cbv
  refine L_rgJ hE lay_ok h 2 (fun j1 : Bool => [(21, fB j1)]) (fun j1 => []) (fun j1 h => ?_) (fun j1 h => ?_) <;> cbv
  · refine L_if hE h (fun h => ?_) (fun h => ?_) <;> cbv
    · cases h; (cbv; (try simp only [e_rnil hR]); repeat' (first | exact trivial | exact rfl | exact Or.inr trivial | apply And.intro))
    cases h; (cbv; (try simp only [e_rnil hR]); repeat' (first | exact trivial | exact rfl | exact Or.inr trivial | apply And.intro))
  refine L_if hE h (fun h => ?_) (fun h => ?_) <;> cbv
  · refine L_call hE hR h (fun _ e => r22_bad_w e) rfl rfl fun a1 h => ?_; cbv
    exact And.left (hQ _ _ _ rfl rfl (by cases h; subst hR; rfl))
  refine L_if hE h (fun h => ?_) (fun h => ?_) <;> cbv
  · refine L_call hE hR h (fun _ e => r22_bad_w e) rfl rfl fun a2 h => ?_; cbv
    exact And.left (hQ _ _ _ rfl rfl (by cases h; subst hR; rfl))
  refine L_call hE hR h (fun _ e => r09_Signs_w e) rfl rfl fun a3 h => ?_; cbv
  refine L_rgJ hE lay_ok h 2 (fun j2 : Bool => [(43, fB j2)]) (fun j2 => []) (fun j2 h => ?_) (fun j2 h => ?_) <;> cbv
  · refine L_if hE h (fun h => ?_) (fun h => ?_) <;> cbv
    · cases h; (cbv; (try simp only [e_rnil hR]); repeat' (first | exact trivial | exact rfl | exact Or.inr trivial | apply And.intro))
    cases h; (cbv; (try simp only [e_rnil hR]); repeat' (first | exact trivial | exact rfl | exact Or.inr trivial | apply And.intro))
  refine L_if hE h (fun h => ?_) (fun h => ?_) <;> cbv
  · refine L_call hE hR h (fun _ e => r22_bad_w e) rfl rfl fun a4 h => ?_; cbv
    exact And.left (hQ _ _ _ rfl rfl (by cases h; subst hR; rfl))
  refine L_call hE hR h (fun _ e => r22_Op_w e) rfl rfl fun a5 h => ?_; cbv
  refine L_rgJ hE lay_ok h 2 (fun j3 : Bool => [(62, fB j3)]) (fun j3 => []) (fun j3 h => ?_) (fun j3 h => ?_) <;> cbv
  · refine L_if hE h (fun h => ?_) (fun h => ?_) <;> cbv
    · cases h; (cbv; (try simp only [e_rnil hR]); repeat' (first | exact trivial | exact rfl | exact Or.inr trivial | apply And.intro))
    cases h; (cbv; (try simp only [e_rnil hR]); repeat' (first | exact trivial | exact rfl | exact Or.inr trivial | apply And.intro))
  refine L_if hE h (fun h => ?_) (fun h => ?_) <;> cbv
  · refine L_call hE hR h (fun _ e => r22_bad_w e) rfl rfl fun a6 h => ?_; cbv
    exact And.left (hQ _ _ _ rfl rfl (by cases h; subst hR; rfl))
  refine L_rgJ hE lay_ok h 2 (fun j4 : Bool => [(81, fB j4)]) (fun j4 => []) (fun j4 h => ?_) (fun j4 h => ?_) <;> cbv
  · refine L_if hE h (fun h => ?_) (fun h => ?_) <;> cbv
    · refine L_call hE hR h (fun _ e => r22_is_w e) rfl rfl fun a7 h => ?_; cbv
      refine L_if hE h (fun h => ?_) (fun h => ?_) <;> cbv
      · cases h; (cbv; (try simp only [e_rnil hR]); repeat' (first | exact trivial | exact rfl | exact Or.inr trivial | apply And.intro))
      cases h; (cbv; (try simp only [e_rnil hR]); repeat' (first | exact trivial | exact rfl | exact Or.inr trivial | apply And.intro))
    cases h; (cbv; (try simp only [e_rnil hR]); repeat' (first | exact trivial | exact rfl | exact Or.inr trivial | apply And.intro))
  refine L_if hE h (fun h => ?_) (fun h => ?_) <;> cbv
  · refine L_call hE hR h (fun _ e => r22_bad_w e) rfl rfl fun a8 h => ?_; cbv
    exact And.left (hQ _ _ _ rfl rfl (by cases h; subst hR; rfl))
  refine L_if hE h (fun h => ?_) (fun h => ?_) <;> cbv
  · refine L_call hE hR h (fun _ e => r22_bad_w e) rfl rfl fun a9 h => ?_; cbv
    exact And.left (hQ _ _ _ rfl rfl (by cases h; subst hR; rfl))
  refine L_call hE hR h (fun _ e => r22_Sign_w e) rfl rfl fun a10 h => ?_; cbv
  refine L_call hE hR h (fun _ e => r10_Read_w e) rfl rfl fun a11 h => ?_; cbv
  refine L_if hE h (fun h => ?_) (fun h => ?_) <;> cbv
  · refine L_call hE hR h (fun _ e => r22_bad_w e) rfl rfl fun a12 h => ?_; cbv
    exact And.left (hQ _ _ _ rfl rfl (by cases h; subst hR; rfl))
  refine L_ssin hE h fun h => ?_
  refine L_call hE hR h (fun _ e => r22_Right_w e) rfl rfl fun a13 h => ?_; cbv
  refine L_if hE h (fun h => ?_) (fun h => ?_) <;> cbv
  · refine L_call hE hR h (fun _ e => r22_Right_w e) rfl rfl fun a14 h => ?_; cbv
    refine L_call hE hR h (fun _ e => r22_bad_w e) rfl rfl fun a15 h => ?_; cbv
    exact And.left (hQ _ _ _ rfl rfl (by cases h; subst hR; rfl))
  exact And.left (hQ _ _ _ rfl rfl (by cases h; subst hR; rfl))
theorem l22_MatcherReads_w {N : Nat} {p0 : ByteArray} {p1 : Int} {r : Bool} (h : l22_MatcherReads_g N p0 p1 = some r) : FunS Tryz.prog 4 [fS p0, fI .i64 p1] (l22_MatcherReads_s rw) r := by
  refine fun_w lay_ok Tryz.call4 Tryz.func4 rfl ?_
  intro A W E Q R hE hR hf hQ; rcases W with ⟨ar, cm, conj, cv, sl, sc, ct, sa, ss, ll, _, _, _, _, mi, mx, _, _, _⟩
  unfold l22_MatcherReads_g at h
  rw [q_cm hE, q_conj hE, q_sl hE, q_sc hE] at h
  cbv
  refine L_if hE h (fun h => ?_) (fun h => ?_) <;> cbv
  · refine L_call hE hR h (fun _ e => l22_works_w e) rfl rfl fun a1 h => ?_; cbv
    exact And.left (hQ _ _ _ rfl rfl (by cases h; subst hR; rfl))
  refine L_call hE hR h (fun _ e => matcher_Take_w e) rfl rfl fun a2 h => ?_; cbv
  refine L_call hE hR h (fun _ e => r22_Take_w e) rfl rfl fun a3 h => ?_; cbv
  refine L_rgJ hE lay_ok h 4 (fun j1 : Bool => [(4, fB j1)]) (fun j1 => []) (fun j1 h => ?_) (fun j1 h => ?_) <;> cbv
  · refine L_if hE h (fun h => ?_) (fun h => ?_) <;> cbv
    · refine L_if hE h (fun h => ?_) (fun h => ?_) <;> cbv
      · refine L_if hE h (fun h => ?_) (fun h => ?_) <;> cbv
        · refine L_call hE hR h (fun _ e => l22_works_w e) rfl rfl fun a4 h => ?_; cbv
          cases h; (cbv; (try simp only [e_rnil hR]); repeat' (first | exact trivial | exact rfl | exact Or.inr trivial | apply And.intro))
        cases h; (cbv; (try simp only [e_rnil hR]); repeat' (first | exact trivial | exact rfl | exact Or.inr trivial | apply And.intro))
      cases h; (cbv; (try simp only [e_rnil hR]); repeat' (first | exact trivial | exact rfl | exact Or.inr trivial | apply And.intro))
    cases h; (cbv; (try simp only [e_rnil hR]); repeat' (first | exact trivial | exact rfl | exact Or.inr trivial | apply And.intro))
  exact And.left (hQ _ _ _ rfl rfl (by cases h; subst hR; rfl))
end Gn
end Go.Proofs.YtampjnpnekekiaaGreatDoor
namespace Go.Proofs.YtampjnpnekekiaaGreatDoor
open Go Go.ChangeShapes Go.WideShapes Go.ChangeAt Go.RowKit
section
variable {H : Type} {enc : TypeId × Value → H} {P : Program} {W W' : World}
theorem below_all (hl : laidOutB P = true) (hb : Below W.heap.size W W') : ∀ (ts : List TypeId) (vs : List Value) (ds : List (DataW H)) (ps : List MemPlace),
    (ts.all fun t => P.readableRec t && decide (t < P.types.size)) = true → DataW.TrodAll enc P W 0 (fun _ => true) true ts vs ds ps → (∀ x ∈ ps, x.block < W.heap.size) →
    DataW.TrodAll enc P W' 0 (fun b => decide (b < W.heap.size)) true ts vs ds ps
  | [], vs, ds, ps, _, h, _ => by
    obtain ⟨rfl, rfl, rfl⟩ := trodAll_nil h
    exact trodAll_mk0
  | t :: ts, vs, ds, ps, hr, h, hlt => by
    obtain ⟨v, vs', d, ds', p, q, rfl, rfl, rfl, h0, r0⟩ := trodAll_cons h
    simp only [List.all_cons, Bool.and_eq_true, decide_eq_true_eq] at hr
    exact trodAll_cons_mk (Below.trod hl hr.1.1 hr.1.2 h0 hb (fun x hx => hlt x (List.mem_append_left _ hx)))
      (below_all hl hb ts vs' ds' q (by simpa using hr.2) r0 (fun x hx => hlt x (List.mem_append_right _ hx)))
theorem law_post {s : ChangeSpec} {f : Func} {args : Array Value} {ds gs : List (DataW H)} {before : List MemPlace} {t : TypeId} (hl : laidOutB P = true)
    (hr : (f.params.toList.all fun t => P.readableRec t && decide (t < P.types.size)) = true) (hres : f.resultTypes = #[t]) (ht : P.underlying t = some .bool)
    (hv : s.vars = []) (hfn : s.fn H (ds ++ gs) = { results := [.lit (.bool true)], args := ds })
    (hW : DataW.Whole enc P f.params.toList s.vars false W args.toList ds gs before) (hb : Below W.heap.size W W') : s.post enc P f false true false false W args (.bool true) W' := by
  have hW' := hW
  have hlt := hW.lt
  obtain ⟨p, q, hA, hV, rfl, _, _⟩ := hW
  refine ⟨ds, gs, _, [], p, [], hW', ?_, ?_, ?_, hb.frame _, fun h => by cases h⟩
  · rw [hfn, hres]
    exact trodAll_mk1 (shut_bool ht _)
  · rw [hfn]
    exact below_all hl hb _ _ _ _ hr hA (fun x hx => by simpa using hlt x (List.mem_append_left _ hx))
  · rw [hfn, hv]
    exact rfl
end
def flatD : DataW Unit → List Value
  | .lit (.int k n) => [.int k n]
  | .agg ps => flatDs ps
  | _ => []
  where flatDs : List (DataW Unit) → List Value
  | [] => []
  | d :: r => flatD d ++ flatDs r
end Go.Proofs.YtampjnpnekekiaaGreatDoor
