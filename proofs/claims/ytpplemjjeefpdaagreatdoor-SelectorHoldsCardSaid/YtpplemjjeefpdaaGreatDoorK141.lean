/- Texts that the proof leans on. -/
import Derived.ChangeKeysEq
import Derived.WalkKit
import Derived.KernelRfl
import Derived.Lib.TrailingZeros
import Derived.Shelf.Unicode.DecodeSlow
import Derived.Laws.Tables
import Derived.Laws.MakeOwn
import Derived.Maps.AppendAt
import Derived.Laws.BytesString
import Derived.Laws.IdiomStrings
import Derived.Laws.StructEq
import Derived.Lib.OthersKept
import Derived.Lib.AppendStr
import Derived.Laws.CopyRow
import Derived.Still
import Derived.StillTail
import Derived.LoopN
import Derived.Test.YtpplemjjeefpdaaGreatDoorProg
import Derived.Laws.BitsAllLaws
import Derived.Below
import Derived.Calls
import Derived.Deep.Draws
import Derived.WalkSpells
import Derived.Deep.QuietTactic
import Derived.BigQuiet
import Derived.BigRegion
import Derived.RegionTactic
import Derived.WalkLawsBesides
import Derived.Shelf.Spec.TrailingZeros
import Derived.Defers
import Derived.Recover
import Derived.Laws.Pointers
import Derived.Lib.Builder
import Derived.Lib.UnsafeStr
import Derived.Shelf.RegionOpenPlain
import Derived.Laws.Externs
import Derived.Shelf.Small.Bits
import Derived.Shelf.Small.Strs
import Derived.Shelf.Strconv.Itoa0
import Derived.Shelf.Strings.Search1
import Derived.Shelf.Sort.Plain
import Derived.Shelf.Unicode.Decode
import Derived.Shelf.Unicode.DecodeAny
import Derived.Shelf.Slices.CompactS
import Derived.Ground.Names2Prog
import Derived.Shelf.Slices.SearchI
import Derived.Shelf.Slices.Cells
import Derived.Shelf.Slices.In.SortNone
import Derived.Sort.EncStr
import Derived.Sort.Grow
import Derived.Test.YtpplemjjeefpdaaGreatDoorK136
import Derived.Test.YtpplemjjeefpdaaGreatDoorK131
import Derived.Test.YtpplemjjeefpdaaGreatDoorK140
import Derived.Test.YtpplemjjeefpdaaGreatDoorK128
import Derived.Test.YtpplemjjeefpdaaGreatDoorK138
import Derived.Test.YtpplemjjeefpdaaGreatDoorK127
import Derived.Test.YtpplemjjeefpdaaGreatDoorK123
import Derived.Test.YtpplemjjeefpdaaGreatDoorK114
import Derived.Test.YtpplemjjeefpdaaGreatDoorK113
import Derived.Test.YtpplemjjeefpdaaGreatDoorK112
import Derived.Test.YtpplemjjeefpdaaGreatDoorK111
import Derived.Test.YtpplemjjeefpdaaGreatDoorK110
import Derived.Test.YtpplemjjeefpdaaGreatDoorK109
import Derived.Test.YtpplemjjeefpdaaGreatDoorK108
import Derived.Test.YtpplemjjeefpdaaGreatDoorK107
import Derived.Test.YtpplemjjeefpdaaGreatDoorK106
import Derived.Test.YtpplemjjeefpdaaGreatDoorK105
import Derived.Test.YtpplemjjeefpdaaGreatDoorK104
import Derived.Test.YtpplemjjeefpdaaGreatDoorK103
import Derived.Test.YtpplemjjeefpdaaGreatDoorK102
import Derived.Test.YtpplemjjeefpdaaGreatDoorK101
import Derived.Test.YtpplemjjeefpdaaGreatDoorK122
import Derived.Test.YtpplemjjeefpdaaGreatDoorK121
import Derived.Test.YtpplemjjeefpdaaGreatDoorK120
import Derived.Test.YtpplemjjeefpdaaGreatDoorK117
import Derived.Test.YtpplemjjeefpdaaGreatDoorK115
import Derived.Test.YtpplemjjeefpdaaGreatDoorK116
import Derived.Test.YtpplemjjeefpdaaGreatDoorK119
import Derived.Test.YtpplemjjeefpdaaGreatDoorK118
import Derived.Test.YtpplemjjeefpdaaGreatDoorK126
import Derived.Test.YtpplemjjeefpdaaGreatDoorK125
import Derived.Test.YtpplemjjeefpdaaGreatDoorK124
import Derived.Test.YtpplemjjeefpdaaGreatDoorK135
import Derived.Test.YtpplemjjeefpdaaGreatDoorK133
import Derived.Test.YtpplemjjeefpdaaGreatDoorK132
import Derived.Test.YtpplemjjeefpdaaGreatDoorK134
import Derived.Test.YtpplemjjeefpdaaGreatDoorK137
namespace Go.Proofs.YtpplemjjeefpdaaGreatDoor
open Go Go.RowKit
set_option linter.unusedVariables false
set_option linter.unusedSimpArgs false
set_option maxRecDepth 100000
set_option maxHeartbeats 4000000
open Ab Sh
namespace Gn
theorem selector_Right_w {N : Nat} {p0 : List GMatcher} {r : GFault} (h : selector_Right_g N p0 = some r) : FunS Tryz.prog 16 [.t (.slc (rw _ cMatcher p0))] (selector_Right_s rw) r := by
  refine fun_w lay_ok Tryz.call16 Tryz.func16 rfl ?_
  intro A W E Q R hE hR hf hQ; rcases W with ⟨ar, cm, conj, cv, sl, sc, ct, sa, ss, ll, _, _, _, _, mi, mx, _, _, _⟩
  rw [← hR]
  unfold selector_Right_g at h
  rw [q_cm hE, q_ll hE, ← hR] at h
  cbv
  refine L_if hE h (fun h => ?_) (fun h => ?_) <;> cbv
  · exact And.left (hQ _ _ _ rfl rfl (by cases h; subst hR; rfl))
  refine L_for hE lay_ok 1 (fun g : Int × Nat => [(12, fI .i64 g.1)]) (fun g => []) (fun g => selector_Right_l1 N p0 g.2 g.1 = some r) (fun g => g.2) (_, N) h ?_ ?_
  · (cbv; (try simp only [e_rnil hR]); repeat' (first | exact trivial | exact rfl | exact Or.inr trivial | apply And.intro))
  rintro ⟨v1, m1⟩ h Q1 hN1 hT1 hX1
  have h : selector_Right_l1 N p0 m1 v1 = some r := h
  cases m1 with
  | zero => exact nomatch (show (none : Option _) = some _ from h)
  | succ m1 =>
  rw [selector_Right_l1] at h
  rw [q_ar hE, q_cm hE, q_ll hE, ← hR] at h
  cbv
  refine L_if hE h (fun h => ?_) (fun h => ?_) <;> cbv
  · refine L_row hE hR h fun r2 h => ?_; cbv
    refine L_call hE hR h (fun _ e => matcher_Right_w e) rfl rfl fun a3 h => ?_; cbv
    refine L_if hE h (fun h => ?_) (fun h => ?_) <;> cbv
    · refine hT1 _ ?_
      exact And.left (hQ _ _ _ rfl rfl (by cases h; subst hR; rfl))
    refine hN1 _ (_, m1) [] h (Nat.lt_succ_self _) trivial ?_; (cbv; (try simp only [e_rnil hR]); repeat' (first | exact trivial | exact rfl | exact Or.inr trivial | apply And.intro))
  refine hX1 _ _ ?_; cbv
  exact And.left (hQ _ _ _ rfl rfl (by cases h; subst hR; rfl))
end Gn
end Go.Proofs.YtpplemjjeefpdaaGreatDoor
namespace Go.Proofs.YtpplemjjeefpdaaGreatDoor
open Go Go.RowKit
set_option linter.unusedVariables false
set_option linter.unusedSimpArgs false
set_option maxRecDepth 100000
set_option maxHeartbeats 4000000
open Ab Sh
namespace Gn
theorem r23_Right_w {N : Nat} {p0 : List GMatcher} {r : GFault} (h : r23_Right_g N p0 = some r) : FunS Tryz.prog 17 [.t (.slc (rw _ cMatcher p0))] (r23_Right_s rw) r := by
  refine fun_w lay_ok Tryz.call17 Tryz.func17 rfl ?_
  intro A W E Q R hE hR hf hQ; rcases W with ⟨ar, cm, conj, cv, sl, sc, ct, sa, ss, ll, _, _, _, _, mi, mx, _, _, _⟩
  rw [← hR]
  unfold r23_Right_g at h
  rw [q_cm hE, q_ll hE, ← hR] at h
  cbv
  refine L_if hE h (fun h => ?_) (fun h => ?_) <;> cbv
  · exact And.left (hQ _ _ _ rfl rfl (by cases h; subst hR; rfl))
  refine L_for hE lay_ok 1 (fun g : Int × Nat => [(3, fI .i64 g.1)]) (fun g => []) (fun g => r23_Right_l1 N p0 g.2 g.1 = some r) (fun g => g.2) (_, N) h ?_ ?_
  · (cbv; (try simp only [e_rnil hR]); repeat' (first | exact trivial | exact rfl | exact Or.inr trivial | apply And.intro))
  rintro ⟨v1, m1⟩ h Q1 hN1 hT1 hX1
  have h : r23_Right_l1 N p0 m1 v1 = some r := h
  cases m1 with
  | zero => exact nomatch (show (none : Option _) = some _ from h)
  | succ m1 =>
  rw [r23_Right_l1] at h
  rw [q_ar hE, q_cm hE, q_ll hE, ← hR] at h
  cbv
  refine L_if hE h (fun h => ?_) (fun h => ?_) <;> cbv
  · refine L_row hE hR h fun r2 h => ?_; cbv
    refine L_call hE hR h (fun _ e => r22_Right_w e) rfl rfl fun a3 h => ?_; cbv
    refine L_if hE h (fun h => ?_) (fun h => ?_) <;> cbv
    · refine hT1 _ ?_
      exact And.left (hQ _ _ _ rfl rfl (by cases h; subst hR; rfl))
    refine hN1 _ (_, m1) [] h (Nat.lt_succ_self _) trivial ?_; (cbv; (try simp only [e_rnil hR]); repeat' (first | exact trivial | exact rfl | exact Or.inr trivial | apply And.intro))
  refine hX1 _ _ ?_; cbv
  exact And.left (hQ _ _ _ rfl rfl (by cases h; subst hR; rfl))
theorem r13_times_w {p0 : Int} {p1 : Int} {r : Bool} (h : r13_times_g p0 p1 = some r) : FunS Tryz.prog 157 [fI .i64 p0, fI .i64 p1] (r13_times_s rw) r := by
  refine fun_w lay_ok Tryz.call157 Tryz.func157 rfl ?_
  intro A W E Q R hE hR hf hQ; rcases W with ⟨ar, cm, conj, cv, sl, sc, ct, sa, ss, ll, _, _, _, _, mi, mx, _, _, _⟩
  unfold r13_times_g at h
  rw [q_cm hE] at h
  cbv
  refine L_rgJ hE lay_ok h 0 (fun j1 : Bool => [(22, fB j1)]) (fun j1 => []) (fun j1 h => ?_) (fun j1 h => ?_) <;> cbv
  · refine L_if hE h (fun h => ?_) (fun h => ?_) <;> cbv
    · cases h; (cbv; (try simp only [e_rnil hR]); repeat' (first | exact trivial | exact rfl | exact Or.inr trivial | apply And.intro))
    refine L_if hE h (fun h => ?_) (fun h => ?_) <;> cbv
    · cases h; (cbv; (try simp only [e_rnil hR]); repeat' (first | exact trivial | exact rfl | exact Or.inr trivial | apply And.intro))
    refine L_if hE h (fun h => ?_) (fun h => ?_) <;> cbv
    · cases h; (cbv; (try simp only [e_rnil hR]); repeat' (first | exact trivial | exact rfl | exact Or.inr trivial | apply And.intro))
    refine L_if hE h (fun h => ?_) (fun h => ?_) <;> cbv
    · cases h; (cbv; (try simp only [e_rnil hR]); repeat' (first | exact trivial | exact rfl | exact Or.inr trivial | apply And.intro))
    cases h; (cbv; (try simp only [e_rnil hR]); repeat' (first | exact trivial | exact rfl | exact Or.inr trivial | apply And.intro))
  refine L_if hE h (fun h => ?_) (fun h => ?_) <;> cbv
  · exact And.left (hQ _ _ _ rfl rfl (by cases h; subst hR; rfl))
  refine L_rgJ hE lay_ok h 0 (fun j2 : Bool => [(4, fB j2)]) (fun j2 => []) (fun j2 h => ?_) (fun j2 h => ?_) <;> cbv
  · refine L_if hE h (fun h => ?_) (fun h => ?_) <;> cbv
    · cases h; (cbv; (try simp only [e_rnil hR]); repeat' (first | exact trivial | exact rfl | exact Or.inr trivial | apply And.intro))
    cases h; (cbv; (try simp only [e_rnil hR]); repeat' (first | exact trivial | exact rfl | exact Or.inr trivial | apply And.intro))
  exact And.left (hQ _ _ _ rfl rfl (by cases h; subst hR; rfl))
theorem r13_Right_w : ∀ {N : Nat} {p0 : Node} {r : Bool}, r13_Right_g N p0 = some r → FunS Tryz.prog 140 [.agg [fI .i64 p0.kind, fI .u64 (p0.set.a.toNat : Int), fI .u64 (p0.set.b.toNat : Int), fI .u64 (p0.set.c.toNat : Int), fI .u64 (p0.set.d.toNat : Int), .t (.slc (rw _ nodeRow p0.kids)), fI .i64 p0.min, fI .i64 p0.max]] (r13_Right_s rw) r := by
  intro N
  induction N with
  | zero => intros; rename_i h; exact nomatch (show (none : Option _) = some _ from h)
  | succ N ih =>
  intro p0 r h
  refine fun_w lay_ok Tryz.call140 Tryz.func140 rfl ?_
  intro A W E Q R hE hR hf hQ; rcases W with ⟨ar, cm, conj, cv, sl, sc, ct, sa, ss, ll, _, _, _, _, mi, mx, _, _, _⟩
  rw [← hR]
  rw [r13_Right_g] at h
  rw [q_cm hE, q_conj hE, q_ll hE, ← hR] at h
  cbv
  refine L_rgJ hE lay_ok h 1 (fun j1 : Bool => [(13, fB j1)]) (fun j1 => []) (fun j1 h => ?_) (fun j1 h => ?_) <;> cbv
  · refine L_if hE h (fun h => ?_) (fun h => ?_) <;> cbv
    · cases h; (cbv; (try simp only [e_rnil hR]); repeat' (first | exact trivial | exact rfl | exact Or.inr trivial | apply And.intro))
    cases h; (cbv; (try simp only [e_rnil hR]); repeat' (first | exact trivial | exact rfl | exact Or.inr trivial | apply And.intro))
  refine L_if hE h (fun h => ?_) (fun h => ?_) <;> cbv
  · exact And.left (hQ _ _ _ rfl rfl (by cases h; subst hR; rfl))
  refine L_rgJ hE lay_ok h 2 (fun j2 : Bool => [(37, fB j2)]) (fun j2 => []) (fun j2 h => ?_) (fun j2 h => ?_) <;> cbv
  · refine L_if hE h (fun h => ?_) (fun h => ?_) <;> cbv
    · refine L_if hE h (fun h => ?_) (fun h => ?_) <;> cbv
      · cases h; (cbv; (try simp only [e_rnil hR]); repeat' (first | exact trivial | exact rfl | exact Or.inr trivial | apply And.intro))
      refine L_if hE h (fun h => ?_) (fun h => ?_) <;> cbv
      · refine L_if hE h (fun h => ?_) (fun h => ?_) <;> cbv
        · cases h; (cbv; (try simp only [e_rnil hR]); repeat' (first | exact trivial | exact rfl | exact Or.inr trivial | apply And.intro))
        cases h; (cbv; (try simp only [e_rnil hR]); repeat' (first | exact trivial | exact rfl | exact Or.inr trivial | apply And.intro))
      cases h; (cbv; (try simp only [e_rnil hR]); repeat' (first | exact trivial | exact rfl | exact Or.inr trivial | apply And.intro))
    refine L_if hE h (fun h => ?_) (fun h => ?_) <;> cbv
    · refine L_if hE h (fun h => ?_) (fun h => ?_) <;> cbv
      · cases h; (cbv; (try simp only [e_rnil hR]); repeat' (first | exact trivial | exact rfl | exact Or.inr trivial | apply And.intro))
      cases h; (cbv; (try simp only [e_rnil hR]); repeat' (first | exact trivial | exact rfl | exact Or.inr trivial | apply And.intro))
    cases h; (cbv; (try simp only [e_rnil hR]); repeat' (first | exact trivial | exact rfl | exact Or.inr trivial | apply And.intro))
  refine L_if hE h (fun h => ?_) (fun h => ?_) <;> cbv
  · exact And.left (hQ _ _ _ rfl rfl (by cases h; subst hR; rfl))
  refine L_rgJ hE lay_ok h 2 (fun j3 : Bool => [(82, fB j3)]) (fun j3 => []) (fun j3 h => ?_) (fun j3 h => ?_) <;> cbv
  · refine L_if hE h (fun h => ?_) (fun h => ?_) <;> cbv
    · refine L_if hE h (fun h => ?_) (fun h => ?_) <;> cbv
      · cases h; (cbv; (try simp only [e_rnil hR]); repeat' (first | exact trivial | exact rfl | exact Or.inr trivial | apply And.intro))
      refine L_if hE h (fun h => ?_) (fun h => ?_) <;> cbv
      · refine L_if hE h (fun h => ?_) (fun h => ?_) <;> cbv
        · cases h; (cbv; (try simp only [e_rnil hR]); repeat' (first | exact trivial | exact rfl | exact Or.inr trivial | apply And.intro))
        refine L_if hE h (fun h => ?_) (fun h => ?_) <;> cbv
        · refine L_if hE h (fun h => ?_) (fun h => ?_) <;> cbv
          · cases h; (cbv; (try simp only [e_rnil hR]); repeat' (first | exact trivial | exact rfl | exact Or.inr trivial | apply And.intro))
          refine L_if hE h (fun h => ?_) (fun h => ?_) <;> cbv
          · refine L_if hE h (fun h => ?_) (fun h => ?_) <;> cbv
            · cases h; (cbv; (try simp only [e_rnil hR]); repeat' (first | exact trivial | exact rfl | exact Or.inr trivial | apply And.intro))
            refine L_call hE hR h (fun _ e => r13_times_w e) rfl rfl fun a1 h => ?_; cbv
            cases h; (cbv; (try simp only [e_rnil hR]); repeat' (first | exact trivial | exact rfl | exact Or.inr trivial | apply And.intro))
          cases h; (cbv; (try simp only [e_rnil hR]); repeat' (first | exact trivial | exact rfl | exact Or.inr trivial | apply And.intro))
        refine L_if hE h (fun h => ?_) (fun h => ?_) <;> cbv
        · refine L_if hE h (fun h => ?_) (fun h => ?_) <;> cbv
          · cases h; (cbv; (try simp only [e_rnil hR]); repeat' (first | exact trivial | exact rfl | exact Or.inr trivial | apply And.intro))
          refine L_call hE hR h (fun _ e => r13_times_w e) rfl rfl fun a2 h => ?_; cbv
          cases h; (cbv; (try simp only [e_rnil hR]); repeat' (first | exact trivial | exact rfl | exact Or.inr trivial | apply And.intro))
        cases h; (cbv; (try simp only [e_rnil hR]); repeat' (first | exact trivial | exact rfl | exact Or.inr trivial | apply And.intro))
      refine L_if hE h (fun h => ?_) (fun h => ?_) <;> cbv
      · refine L_if hE h (fun h => ?_) (fun h => ?_) <;> cbv
        · cases h; (cbv; (try simp only [e_rnil hR]); repeat' (first | exact trivial | exact rfl | exact Or.inr trivial | apply And.intro))
        refine L_if hE h (fun h => ?_) (fun h => ?_) <;> cbv
        · refine L_if hE h (fun h => ?_) (fun h => ?_) <;> cbv
          · cases h; (cbv; (try simp only [e_rnil hR]); repeat' (first | exact trivial | exact rfl | exact Or.inr trivial | apply And.intro))
          refine L_call hE hR h (fun _ e => r13_times_w e) rfl rfl fun a3 h => ?_; cbv
          cases h; (cbv; (try simp only [e_rnil hR]); repeat' (first | exact trivial | exact rfl | exact Or.inr trivial | apply And.intro))
        cases h; (cbv; (try simp only [e_rnil hR]); repeat' (first | exact trivial | exact rfl | exact Or.inr trivial | apply And.intro))
      refine L_if hE h (fun h => ?_) (fun h => ?_) <;> cbv
      · refine L_if hE h (fun h => ?_) (fun h => ?_) <;> cbv
        · cases h; (cbv; (try simp only [e_rnil hR]); repeat' (first | exact trivial | exact rfl | exact Or.inr trivial | apply And.intro))
        refine L_call hE hR h (fun _ e => r13_times_w e) rfl rfl fun a4 h => ?_; cbv
        cases h; (cbv; (try simp only [e_rnil hR]); repeat' (first | exact trivial | exact rfl | exact Or.inr trivial | apply And.intro))
      cases h; (cbv; (try simp only [e_rnil hR]); repeat' (first | exact trivial | exact rfl | exact Or.inr trivial | apply And.intro))
    refine L_if hE h (fun h => ?_) (fun h => ?_) <;> cbv
    · refine L_if hE h (fun h => ?_) (fun h => ?_) <;> cbv
      · cases h; (cbv; (try simp only [e_rnil hR]); repeat' (first | exact trivial | exact rfl | exact Or.inr trivial | apply And.intro))
      refine L_if hE h (fun h => ?_) (fun h => ?_) <;> cbv
      · refine L_if hE h (fun h => ?_) (fun h => ?_) <;> cbv
        · cases h; (cbv; (try simp only [e_rnil hR]); repeat' (first | exact trivial | exact rfl | exact Or.inr trivial | apply And.intro))
        refine L_if hE h (fun h => ?_) (fun h => ?_) <;> cbv
        · refine L_if hE h (fun h => ?_) (fun h => ?_) <;> cbv
          · cases h; (cbv; (try simp only [e_rnil hR]); repeat' (first | exact trivial | exact rfl | exact Or.inr trivial | apply And.intro))
          refine L_call hE hR h (fun _ e => r13_times_w e) rfl rfl fun a5 h => ?_; cbv
          cases h; (cbv; (try simp only [e_rnil hR]); repeat' (first | exact trivial | exact rfl | exact Or.inr trivial | apply And.intro))
        cases h; (cbv; (try simp only [e_rnil hR]); repeat' (first | exact trivial | exact rfl | exact Or.inr trivial | apply And.intro))
      refine L_if hE h (fun h => ?_) (fun h => ?_) <;> cbv
      · refine L_if hE h (fun h => ?_) (fun h => ?_) <;> cbv
        · cases h; (cbv; (try simp only [e_rnil hR]); repeat' (first | exact trivial | exact rfl | exact Or.inr trivial | apply And.intro))
        refine L_call hE hR h (fun _ e => r13_times_w e) rfl rfl fun a6 h => ?_; cbv
        cases h; (cbv; (try simp only [e_rnil hR]); repeat' (first | exact trivial | exact rfl | exact Or.inr trivial | apply And.intro))
      cases h; (cbv; (try simp only [e_rnil hR]); repeat' (first | exact trivial | exact rfl | exact Or.inr trivial | apply And.intro))
    refine L_if hE h (fun h => ?_) (fun h => ?_) <;> cbv
    · refine L_if hE h (fun h => ?_) (fun h => ?_) <;> cbv
      · cases h; (cbv; (try simp only [e_rnil hR]); repeat' (first | exact trivial | exact rfl | exact Or.inr trivial | apply And.intro))
      refine L_if hE h (fun h => ?_) (fun h => ?_) <;> cbv
      · refine L_if hE h (fun h => ?_) (fun h => ?_) <;> cbv
        · cases h; (cbv; (try simp only [e_rnil hR]); repeat' (first | exact trivial | exact rfl | exact Or.inr trivial | apply And.intro))
        refine L_call hE hR h (fun _ e => r13_times_w e) rfl rfl fun a7 h => ?_; cbv
        cases h; (cbv; (try simp only [e_rnil hR]); repeat' (first | exact trivial | exact rfl | exact Or.inr trivial | apply And.intro))
      cases h; (cbv; (try simp only [e_rnil hR]); repeat' (first | exact trivial | exact rfl | exact Or.inr trivial | apply And.intro))
    refine L_if hE h (fun h => ?_) (fun h => ?_) <;> cbv
    · refine L_if hE h (fun h => ?_) (fun h => ?_) <;> cbv
      · cases h; (cbv; (try simp only [e_rnil hR]); repeat' (first | exact trivial | exact rfl | exact Or.inr trivial | apply And.intro))
      refine L_call hE hR h (fun _ e => r13_times_w e) rfl rfl fun a8 h => ?_; cbv
      cases h; (cbv; (try simp only [e_rnil hR]); repeat' (first | exact trivial | exact rfl | exact Or.inr trivial | apply And.intro))
    cases h; (cbv; (try simp only [e_rnil hR]); repeat' (first | exact trivial | exact rfl | exact Or.inr trivial | apply And.intro))
  refine L_if hE h (fun h => ?_) (fun h => ?_) <;> cbv
  · exact And.left (hQ _ _ _ rfl rfl (by cases h; subst hR; rfl))
  refine L_for hE lay_ok 2 (fun g : Int × Nat => [(2, fB false), (5, fI .i64 g.1)]) (fun g => []) (fun g => r13_Right_l1 (r13_Right_g N) p0 g.2 g.1 = some r) (fun g => g.2) (_, N) h ?_ ?_
  · (cbv; (try simp only [e_rnil hR]); repeat' (first | exact trivial | exact rfl | exact Or.inr trivial | apply And.intro))
  rintro ⟨v9, m1⟩ h Q1 hN1 hT1 hX1
  have h : r13_Right_l1 (r13_Right_g N) p0 m1 v9 = some r := h
  cases m1 with
  | zero => exact nomatch (show (none : Option _) = some _ from h)
  | succ m1 =>
  rw [r13_Right_l1] at h
  rw [q_ar hE, q_cm hE, q_ll hE, ← hR] at h
  cbv
  refine L_if hE h (fun h => ?_) (fun h => ?_) <;> cbv
  · refine L_whole hE lay_ok (by kernel_rfl) (by kernel_rfl) ?_; cbv
    refine L_rowN hE hR h fun r10 h => ?_; cbv
    refine L_pcall hE hR h (fun _ e => ih e) (by subst hR; rfl) rfl fun a11 h => ?_; cbv
    refine L_if hE h (fun h => ?_) (fun h => ?_) <;> cbv
    · refine L_if hE h (fun h => ?_) (fun h => ?_) <;> cbv
      · refine L_if hE h (fun h => ?_) (fun h => ?_) <;> cbv
        · refine L_if hE h (fun h => ?_) (fun h => ?_) <;> cbv
          · refine L_if hE h (fun h => ?_) (fun h => ?_) <;> cbv
            · refine L_if hE h (fun h => ?_) (fun h => ?_) <;> cbv
              · refine L_if hE h (fun h => ?_) (fun h => ?_) <;> cbv
                · refine L_if hE h (fun h => ?_) (fun h => ?_) <;> cbv
                  · refine L_if hE h (fun h => ?_) (fun h => ?_) <;> cbv
                    · refine L_if hE h (fun h => ?_) (fun h => ?_) <;> cbv
                      · refine L_if hE h (fun h => ?_) (fun h => ?_) <;> cbv
                        · refine L_if hE h (fun h => ?_) (fun h => ?_) <;> cbv
                          · refine L_t hE ?_; cbv
                            refine hT1 _ ?_
                            exact And.left (hQ _ _ _ rfl rfl (by cases h; subst hR; rfl))
                          exact nomatch h
                        exact nomatch h
                      exact nomatch h
                    exact nomatch h
                  exact nomatch h
                exact nomatch h
              exact nomatch h
            exact nomatch h
          exact nomatch h
        exact nomatch h
      exact nomatch h
    refine L_if hE h (fun h => ?_) (fun h => ?_) <;> cbv
    · exact nomatch h
    refine L_if hE h (fun h => ?_) (fun h => ?_) <;> cbv
    · exact nomatch h
    refine L_if hE h (fun h => ?_) (fun h => ?_) <;> cbv
    · exact nomatch h
    refine L_rowN hE hR h fun r12 h => ?_; cbv
    refine L_if hE h (fun h => ?_) (fun h => ?_) <;> cbv
    · exact nomatch h
    refine L_if hE h (fun h => ?_) (fun h => ?_) <;> cbv
    · exact nomatch h
    refine L_if hE h (fun h => ?_) (fun h => ?_) <;> cbv
    · exact nomatch h
    refine L_if hE h (fun h => ?_) (fun h => ?_) <;> cbv
    · exact nomatch h
    refine L_if hE h (fun h => ?_) (fun h => ?_) <;> cbv
    · exact nomatch h
    refine L_if hE h (fun h => ?_) (fun h => ?_) <;> cbv
    · exact nomatch h
    refine L_if hE h (fun h => ?_) (fun h => ?_) <;> cbv
    · refine L_if hE h (fun h => ?_) (fun h => ?_) <;> cbv
      · refine L_if hE h (fun h => ?_) (fun h => ?_) <;> cbv
        · refine L_if hE h (fun h => ?_) (fun h => ?_) <;> cbv
          · exact nomatch h
          refine L_if hE h (fun h => ?_) (fun h => ?_) <;> cbv
          · refine L_if hE h (fun h => ?_) (fun h => ?_) <;> cbv
            · exact nomatch h
            refine L_if hE h (fun h => ?_) (fun h => ?_) <;> cbv
            · refine hT1 _ ?_
              exact And.left (hQ _ _ _ rfl rfl (by cases h; subst hR; rfl))
            refine hN1 _ (_, m1) [] h (Nat.lt_succ_self _) trivial ?_; (cbv; (try simp only [e_rnil hR]); repeat' (first | exact trivial | exact rfl | exact Or.inr trivial | apply And.intro))
          exact nomatch h
        exact nomatch h
      exact nomatch h
    refine L_if hE h (fun h => ?_) (fun h => ?_) <;> cbv
    · exact nomatch h
    refine L_if hE h (fun h => ?_) (fun h => ?_) <;> cbv
    · exact nomatch h
    refine L_if hE h (fun h => ?_) (fun h => ?_) <;> cbv
    · exact nomatch h
    refine L_if hE h (fun h => ?_) (fun h => ?_) <;> cbv
    · exact nomatch h
    refine L_if hE h (fun h => ?_) (fun h => ?_) <;> cbv
    · exact nomatch h
    refine L_f hE ?_; cbv
    refine hN1 _ (_, m1) [] h (Nat.lt_succ_self _) trivial ?_; (cbv; (try simp only [e_rnil hR]); repeat' (first | exact trivial | exact rfl | exact Or.inr trivial | apply And.intro))
  refine hX1 _ _ ?_; cbv
  exact And.left (hQ _ _ _ rfl rfl (by cases h; subst hR; rfl))
end Gn
end Go.Proofs.YtpplemjjeefpdaaGreatDoor
namespace Go.Proofs.YtpplemjjeefpdaaGreatDoor
open Go Go.RowKit
set_option linter.unusedVariables false
set_option linter.unusedSimpArgs false
set_option maxRecDepth 100000
set_option maxHeartbeats 4000000
open Ab Sh
namespace Gn
theorem r15_from_w {rec : Node → ByteArray → Int → Option (List Bool)} (hrec : ∀ {p0 : Node} {p1 : ByteArray} {p2 : Int} {r : List Bool}, rec p0 p1 p2 = some r → FunL Tryz.prog 141 [.agg [fI .i64 p0.kind, fI .u64 (p0.set.a.toNat : Int), fI .u64 (p0.set.b.toNat : Int), fI .u64 (p0.set.c.toNat : Int), fI .u64 (p0.set.d.toNat : Int), .t (.slc (rw _ nodeRow p0.kids)), fI .i64 p0.min, fI .i64 p0.max], fS p1, fI .i64 p2] 4 1 (rw _ cB r)) {N : Nat} {p0 : Node} {p1 : ByteArray} {p2 : List Bool} {r : List Bool} (h : r15_from_g rec N p0 p1 p2 = some r) : FunL Tryz.prog 159 [.agg [fI .i64 p0.kind, fI .u64 (p0.set.a.toNat : Int), fI .u64 (p0.set.b.toNat : Int), fI .u64 (p0.set.c.toNat : Int), fI .u64 (p0.set.d.toNat : Int), .t (.slc (rw _ nodeRow p0.kids)), fI .i64 p0.min, fI .i64 p0.max], fS p1, .t (.slc (rw _ cB p2))] 4 1 (rw _ cB r) := by
  refine list_w lay_ok Tryz.call159 Tryz.func159 rfl ?_
  intro A W E Q R hE hR hf hQ; rcases W with ⟨ar, cm, conj, cv, sl, sc, ct, sa, ss, ll, _, _, _, _, mi, mx, _, _, _⟩
  rw [← hR]
  unfold r15_from_g at h
  rw [q_ll hE, ← hR] at h
  cbv
  refine L_zro hE hR h (by decide) fun l1 e h => ?_; cbv at e; rw [e]; clear e
  refine L_for hE lay_ok 2 (fun g : Int × (List Bool) × Nat => [(7, .lst 1), (8, fI .i64 g.1), (13, .lst 1)]) (fun g => [(1, .list 4 1 (R _ cB g.2.1))]) (fun g => r15_from_l1 rec N p0 p1 p2 g.2.2 g.1 g.2.1 = some r) (fun g => g.2.2) (_, _, N) h ?_ ?_
  · (cbv; (try simp only [e_rnil hR]); repeat' (first | exact trivial | exact rfl | exact Or.inr trivial | apply And.intro))
  rintro ⟨v2, v3, m1⟩ h Q1 hN1 hT1 hX1
  have h : r15_from_l1 rec N p0 p1 p2 m1 v2 v3 = some r := h
  cases m1 with
  | zero => exact nomatch (show (none : Option _) = some _ from h)
  | succ m1 =>
  rw [r15_from_l1] at h
  rw [q_ar hE, q_cm hE, q_ll hE, ← hR] at h
  cbv
  refine L_if hE h (fun h => ?_) (fun h => ?_) <;> cbv
  · refine L_row hE hR h fun r4 h => ?_; cbv
    refine L_cdJ hE lay_ok h 2 (fun j6 : (List Bool) => []) (fun j6 => [(1, .list 4 1 (R _ cB j6))]) (fun j6 h => ?_) (fun j6 h => ?_) <;> cbv
    · refine L_if hE h (fun h => ?_) (fun h => ?_) <;> cbv
      · refine L_list hE hR h (fun _ e => hrec e) (by subst hR; rfl) rfl fun l5 h => ?_; cbv
        refine L_for hE lay_ok 3 (fun g : Int × (List Bool) × Nat => [(7, .lst 1), (9, .lst 2), (10, fI .i64 g.1), (13, .lst 1), (27, .lst 2)]) (fun g => [(1, .list 4 1 (R _ cB g.2.1))]) (fun g => r15_from_l2 l5 g.2.2 g.1 g.2.1 = some j6) (fun g => g.2.2) (_, _, N) h ?_ ?_
        · (cbv; (try simp only [e_rnil hR]); repeat' (first | exact trivial | exact rfl | exact Or.inr trivial | apply And.intro))
        rintro ⟨v6, v7, m2⟩ h Q2 hN2 hT2 hX2
        have h : r15_from_l2 l5 m2 v6 v7 = some j6 := h
        cases m2 with
        | zero => exact nomatch (show (none : Option _) = some _ from h)
        | succ m2 =>
        rw [r15_from_l2] at h
        rw [q_ar hE, q_cm hE, q_ll hE, ← hR] at h
        cbv
        refine L_if hE h (fun h => ?_) (fun h => ?_) <;> cbv
        · refine L_rgJ hE lay_ok h 3 (fun j5 : (List Bool) => []) (fun j5 => [(1, .list 4 1 (R _ cB j5))]) (fun j5 h => ?_) (fun j5 h => ?_) <;> cbv
          · refine L_row hE hR h fun r8 h => ?_; cbv
            refine L_row hE hR h fun r9 h => ?_; cbv
            refine L_if hE h (fun h => ?_) (fun h => ?_) <;> cbv
            · refine L_row hE hR h fun r10 h => ?_; cbv
              refine L_row hE hR h fun r11 h => ?_; cbv
              refine L_put hE hR h fun l12 e h => ?_; cbv at e; rw [e]; clear e
              cases h; (cbv; (try simp only [e_rnil hR]); repeat' (first | exact trivial | exact rfl | exact Or.inr trivial | apply And.intro))
            refine L_row hE hR h fun r13 h => ?_; cbv
            refine L_row hE hR h fun r14 h => ?_; cbv
            refine L_row hE hR h fun r15 h => ?_; cbv
            refine L_row hE hR h fun r16 h => ?_; cbv
            refine L_put hE hR h fun l17 e h => ?_; cbv at e; rw [e]; clear e
            cases h; (cbv; (try simp only [e_rnil hR]); repeat' (first | exact trivial | exact rfl | exact Or.inr trivial | apply And.intro))
          refine hN2 _ (_, _, m2) [] h (Nat.lt_succ_self _) trivial ?_; (cbv; (try simp only [e_rnil hR]); repeat' (first | exact trivial | exact rfl | exact Or.inr trivial | apply And.intro))
        refine hX2 _ _ ?_; cbv
        cases h; (cbv; (try simp only [e_rnil hR]); repeat' (first | exact trivial | exact rfl | exact Or.inr trivial | apply And.intro))
      cases h; (cbv; (try simp only [e_rnil hR]); repeat' (first | exact trivial | exact rfl | exact Or.inr trivial | apply And.intro))
    refine hN1 _ (_, _, m1) [] h (Nat.lt_succ_self _) trivial ?_; (cbv; (try simp only [e_rnil hR]); repeat' (first | exact trivial | exact rfl | exact Or.inr trivial | apply And.intro))
  refine hX1 _ _ ?_; cbv
  exact And.left (hQ _ _ rfl (.inl ⟨_, rfl, by cases h; subst hR; rfl⟩))
theorem r15_ends_w : ∀ {N : Nat} {p0 : Node} {p1 : ByteArray} {p2 : Int} {r : List Bool}, r15_ends_g N p0 p1 p2 = some r → FunL Tryz.prog 141 [.agg [fI .i64 p0.kind, fI .u64 (p0.set.a.toNat : Int), fI .u64 (p0.set.b.toNat : Int), fI .u64 (p0.set.c.toNat : Int), fI .u64 (p0.set.d.toNat : Int), .t (.slc (rw _ nodeRow p0.kids)), fI .i64 p0.min, fI .i64 p0.max], fS p1, fI .i64 p2] 4 1 (rw _ cB r) := by
  intro N
  induction N with
  | zero => intros; rename_i h; exact nomatch (show (none : Option _) = some _ from h)
  | succ N ih =>
  intro p0 p1 p2 r h
  refine list_w lay_ok Tryz.call141 Tryz.func141 rfl ?_
  intro A W E Q R hE hR hf hQ; rcases W with ⟨ar, cm, conj, cv, sl, sc, ct, sa, ss, ll, _, _, _, _, mi, mx, _, _, _⟩
  rw [← hR]
  rw [r15_ends_g] at h
  rw [q_ar hE, q_cm hE, q_cv hE, q_sl hE, q_sa hE] at h
  cbv
  refine L_zro hE hR h (by decide) fun l1 e h => ?_; cbv at e; rw [e]; clear e
  refine L_zro hE hR h (by decide) fun _ e h => ?_; clear e
  refine L_row hE hR h fun r3 h => ?_; cbv
  refine L_row hE hR h fun r4 h => ?_; cbv
  refine L_put hE hR h fun l5 e h => ?_; cbv at e; rw [e]; clear e
  refine L_if hE h (fun h => ?_) (fun h => ?_) <;> cbv
  · refine L_whole hE lay_ok (by kernel_rfl) (by kernel_rfl) ?_; cbv
    refine L_if hE h (fun h => ?_) (fun h => ?_) <;> cbv
    · refine L_if hE h (fun h => ?_) (fun h => ?_) <;> cbv
      · refine L_if hE h (fun h => ?_) (fun h => ?_) <;> cbv
        · refine L_if hE h (fun h => ?_) (fun h => ?_) <;> cbv
          · refine L_if hE h (fun h => ?_) (fun h => ?_) <;> cbv
            · refine L_sin hE h fun h => ?_
              refine L_if hE h (fun h => ?_) (fun h => ?_) <;> cbv
              · refine L_if hE h (fun h => ?_) (fun h => ?_) <;> cbv
                · refine L_pcall hE hR h (fun _ e => r12_Has_w e) rfl rfl fun a6 h => ?_; cbv
                  refine L_if hE h (fun h => ?_) (fun h => ?_) <;> cbv
                  · refine L_cdJ hE lay_ok h 16 (fun j1 : (List Bool) => []) (fun j1 => [(1, .list 4 1 (R _ cB j1))]) (fun j1 h => ?_) (fun j1 h => ?_) <;> cbv
                    · refine L_if hE h (fun h => ?_) (fun h => ?_) <;> cbv
                      · refine L_row hE hR h fun r7 h => ?_; cbv
                        refine L_row hE hR h fun r8 h => ?_; cbv
                        refine L_put hE hR h fun l9 e h => ?_; cbv at e; rw [e]; clear e
                        cases h; (cbv; (try simp only [e_rnil hR]); repeat' (first | exact trivial | exact rfl | exact Or.inr trivial | apply And.intro))
                      cases h; (cbv; (try simp only [e_rnil hR]); repeat' (first | exact trivial | exact rfl | exact Or.inr trivial | apply And.intro))
                    exact And.left (hQ _ _ rfl (.inl ⟨_, rfl, by cases h; subst hR; rfl⟩))
                  exact nomatch h
                exact nomatch h
              exact nomatch h
            exact nomatch h
          exact nomatch h
        exact nomatch h
      exact nomatch h
    refine L_if hE h (fun h => ?_) (fun h => ?_) <;> cbv
    · exact nomatch h
    refine L_if hE h (fun h => ?_) (fun h => ?_) <;> cbv
    · exact nomatch h
    refine L_if hE h (fun h => ?_) (fun h => ?_) <;> cbv
    · exact nomatch h
    refine L_if hE h (fun h => ?_) (fun h => ?_) <;> cbv
    · exact nomatch h
    refine L_if hE h (fun h => ?_) (fun h => ?_) <;> cbv
    · exact nomatch h
    refine L_if hE h (fun h => ?_) (fun h => ?_) <;> cbv
    · exact nomatch h
    refine L_if hE h (fun h => ?_) (fun h => ?_) <;> cbv
    · exact nomatch h
    refine L_cd hE lay_ok ?_; cbv
    refine L_f hE ?_; cbv
    exact And.left (hQ _ _ rfl (.inl ⟨_, rfl, by cases h; subst hR; rfl⟩))
  refine L_if hE h (fun h => ?_) (fun h => ?_) <;> cbv
  · refine L_for hE lay_ok 3 (fun g : Int × (List Bool) × Nat => [(7, .lst 1), (8, .lst 2), (9, fI .i64 g.1), (19, .lst 1)]) (fun g => [(2, .list 4 1 (R _ cB g.2.1))]) (fun g => r15_ends_l1 (r15_ends_g N) N p0 p1 g.2.2 g.1 g.2.1 = some r) (fun g => g.2.2) (_, _, N) h ?_ ?_
    · (cbv; (try simp only [e_rnil hR]); repeat' (first | exact trivial | exact rfl | exact Or.inr trivial | apply And.intro))
    rintro ⟨v10, v11, m1⟩ h Q1 hN1 hT1 hX1
    have h : r15_ends_l1 (r15_ends_g N) N p0 p1 m1 v10 v11 = some r := h
    cases m1 with
    | zero => exact nomatch (show (none : Option _) = some _ from h)
    | succ m1 =>
    rw [r15_ends_l1] at h
    rw [q_ar hE, q_cm hE, q_ll hE, ← hR] at h
    cbv
    refine L_if hE h (fun h => ?_) (fun h => ?_) <;> cbv
    · refine L_rowN hE hR h fun r12 h => ?_; cbv
      refine L_listB hE hR h (fun _ e => r15_from_w (fun e => ih e) e) rfl (by subst hR; rfl) flat_B fun l13 h => ?_; cbv
      refine hN1 _ (_, _, m1) [(2, 3)] h (Nat.lt_succ_self _) ⟨hf _, hf _, trivial⟩ ?_; (cbv; (try simp only [e_rnil hR]); repeat' (first | exact trivial | exact rfl | exact Or.inr trivial | apply And.intro))
    refine hX1 _ _ ?_; cbv
    exact And.left (hQ _ _ rfl (.inl ⟨_, rfl, by cases h; subst hR; rfl⟩))
  refine L_if hE h (fun h => ?_) (fun h => ?_) <;> cbv
  · refine L_for hE lay_ok 3 (fun g : Int × (List Bool) × Nat => [(7, .lst 1), (8, .lst 2), (10, fI .i64 g.1), (19, .lst 1), (23, .lst 2), (24, .lst 2), (26, .elt 2 p2 0)]) (fun g => [(1, .list 4 1 (R _ cB g.2.1))]) (fun g => r15_ends_l2 (r15_ends_g N) N p0 p1 p2 g.2.2 g.1 g.2.1 = some r) (fun g => g.2.2) (_, _, N) h ?_ ?_
    · (cbv; (try simp only [e_rnil hR]); repeat' (first | exact trivial | exact rfl | exact Or.inr trivial | apply And.intro))
    rintro ⟨v14, v15, m2⟩ h Q2 hN2 hT2 hX2
    have h : r15_ends_l2 (r15_ends_g N) N p0 p1 p2 m2 v14 v15 = some r := h
    cases m2 with
    | zero => exact nomatch (show (none : Option _) = some _ from h)
    | succ m2 =>
    rw [r15_ends_l2] at h
    rw [q_cm hE, q_ll hE, ← hR] at h
    cbv
    refine L_if hE h (fun h => ?_) (fun h => ?_) <;> cbv
    · refine L_rowN hE hR h fun r16 h => ?_; cbv
      refine L_list hE hR h (fun _ e => ih e) (by subst hR; rfl) rfl fun l17 h => ?_; cbv
      refine L_for hE lay_ok 4 (fun g : Int × (List Bool) × Nat => [(7, .lst 1), (8, .lst 2), (11, .lst 3), (12, fI .i64 g.1), (19, .lst 1), (23, .lst 2), (24, .lst 2), (26, .elt 2 p2 0), (84, .lst 3)]) (fun g => [(1, .list 4 1 (R _ cB g.2.1))]) (fun g => r15_ends_l3 (r15_ends_l2 (r15_ends_g N) N p0 p1 p2 m2) v14 l17 g.2.2 g.1 g.2.1 = some r) (fun g => g.2.2) (_, _, N) h ?_ ?_
      · (cbv; (try simp only [e_rnil hR]); repeat' (first | exact trivial | exact rfl | exact Or.inr trivial | apply And.intro))
      rintro ⟨v18, v19, m3⟩ h Q3 hN3 hT3 hX3
      have h : r15_ends_l3 (r15_ends_l2 (r15_ends_g N) N p0 p1 p2 m2) v14 l17 m3 v18 v19 = some r := h
      cases m3 with
      | zero => exact nomatch (show (none : Option _) = some _ from h)
      | succ m3 =>
      rw [r15_ends_l3] at h
      rw [q_ar hE, q_cm hE, q_ll hE, ← hR] at h
      cbv
      refine L_if hE h (fun h => ?_) (fun h => ?_) <;> cbv
      · refine L_rgJ hE lay_ok h 4 (fun j5 : (List Bool) => []) (fun j5 => [(1, .list 4 1 (R _ cB j5))]) (fun j5 h => ?_) (fun j5 h => ?_) <;> cbv
        · refine L_row hE hR h fun r20 h => ?_; cbv
          refine L_row hE hR h fun r21 h => ?_; cbv
          refine L_if hE h (fun h => ?_) (fun h => ?_) <;> cbv
          · refine L_row hE hR h fun r22 h => ?_; cbv
            refine L_row hE hR h fun r23 h => ?_; cbv
            refine L_put hE hR h fun l24 e h => ?_; cbv at e; rw [e]; clear e
            cases h; (cbv; (try simp only [e_rnil hR]); repeat' (first | exact trivial | exact rfl | exact Or.inr trivial | apply And.intro))
          refine L_row hE hR h fun r25 h => ?_; cbv
          refine L_row hE hR h fun r26 h => ?_; cbv
          refine L_row hE hR h fun r27 h => ?_; cbv
          refine L_row hE hR h fun r28 h => ?_; cbv
          refine L_put hE hR h fun l29 e h => ?_; cbv at e; rw [e]; clear e
          cases h; (cbv; (try simp only [e_rnil hR]); repeat' (first | exact trivial | exact rfl | exact Or.inr trivial | apply And.intro))
        refine hN3 _ (_, _, m3) [] h (Nat.lt_succ_self _) trivial ?_; (cbv; (try simp only [e_rnil hR]); repeat' (first | exact trivial | exact rfl | exact Or.inr trivial | apply And.intro))
      refine hX3 _ _ ?_; cbv
      refine hN2 _ (_, _, m2) [] h (Nat.lt_succ_self _) trivial ?_; (cbv; (try simp only [e_rnil hR]); repeat' (first | exact trivial | exact rfl | exact Or.inr trivial | apply And.intro))
    refine hX2 _ _ ?_; cbv
    exact And.left (hQ _ _ rfl (.inl ⟨_, rfl, by cases h; subst hR; rfl⟩))
  refine L_cdJ hE lay_ok h 3 (fun j6 : Int => [(13, fI .i64 j6)]) (fun j6 => []) (fun j6 h => ?_) (fun j6 h => ?_) <;> cbv
  · refine L_if hE h (fun h => ?_) (fun h => ?_) <;> cbv
    · cases h; (cbv; (try simp only [e_rnil hR]); repeat' (first | exact trivial | exact rfl | exact Or.inr trivial | apply And.intro))
    cases h; (cbv; (try simp only [e_rnil hR]); repeat' (first | exact trivial | exact rfl | exact Or.inr trivial | apply And.intro))
  refine L_for hE lay_ok 3 (fun g : Int × (List Bool) × (List Bool) × Nat => [(7, .lst 1), (8, .lst 2), (14, fI .i64 g.1), (19, .lst 1)]) (fun g => [(1, .list 4 1 (R _ cB g.2.1)), (2, .list 4 1 (R _ cB g.2.2.1))]) (fun g => r15_ends_l4 (r15_ends_g N) N p0 p1 j6 g.2.2.2 g.1 g.2.1 g.2.2.1 = some r) (fun g => g.2.2.2) (_, _, _, N) h ?_ ?_
  · (cbv; (try simp only [e_rnil hR]); repeat' (first | exact trivial | exact rfl | exact Or.inr trivial | apply And.intro))
  rintro ⟨v30, v31, v32, m4⟩ h Q4 hN4 hT4 hX4
  have h : r15_ends_l4 (r15_ends_g N) N p0 p1 j6 m4 v30 v31 v32 = some r := h
  cases m4 with
  | zero => exact nomatch (show (none : Option _) = some _ from h)
  | succ m4 =>
  rw [r15_ends_l4] at h
  rw [q_ar hE, q_cm hE] at h
  cbv
  refine L_if hE h (fun h => ?_) (fun h => ?_) <;> cbv
  · refine L_cdJ hE lay_ok h 3 (fun j12 : (List Bool) => []) (fun j12 => [(1, .list 4 1 (R _ cB j12))]) (fun j12 h => ?_) (fun j12 h => ?_) <;> cbv
    · refine L_if hE h (fun h => ?_) (fun h => ?_) <;> cbv
      · refine L_for hE lay_ok 3 (fun g : Int × (List Bool) × Nat => [(7, .lst 1), (8, .lst 2), (15, fI .i64 g.1), (19, .lst 1)]) (fun g => [(1, .list 4 1 (R _ cB g.2.1))]) (fun g => r15_ends_l5 v32 g.2.2 g.1 g.2.1 = some j12) (fun g => g.2.2) (_, _, N) h ?_ ?_
        · (cbv; (try simp only [e_rnil hR]); repeat' (first | exact trivial | exact rfl | exact Or.inr trivial | apply And.intro))
        rintro ⟨v33, v34, m5⟩ h Q5 hN5 hT5 hX5
        have h : r15_ends_l5 v32 m5 v33 v34 = some j12 := h
        cases m5 with
        | zero => exact nomatch (show (none : Option _) = some _ from h)
        | succ m5 =>
        rw [r15_ends_l5] at h
        rw [q_ar hE, q_cm hE, q_ll hE, ← hR] at h
        cbv
        refine L_if hE h (fun h => ?_) (fun h => ?_) <;> cbv
        · refine L_rgJ hE lay_ok h 3 (fun j11 : (List Bool) => []) (fun j11 => [(1, .list 4 1 (R _ cB j11))]) (fun j11 h => ?_) (fun j11 h => ?_) <;> cbv
          · refine L_row hE hR h fun r35 h => ?_; cbv
            refine L_row hE hR h fun r36 h => ?_; cbv
            refine L_if hE h (fun h => ?_) (fun h => ?_) <;> cbv
            · refine L_row hE hR h fun r37 h => ?_; cbv
              refine L_row hE hR h fun r38 h => ?_; cbv
              refine L_put hE hR h fun l39 e h => ?_; cbv at e; rw [e]; clear e
              cases h; (cbv; (try simp only [e_rnil hR]); repeat' (first | exact trivial | exact rfl | exact Or.inr trivial | apply And.intro))
            refine L_row hE hR h fun r40 h => ?_; cbv
            refine L_row hE hR h fun r41 h => ?_; cbv
            refine L_row hE hR h fun r42 h => ?_; cbv
            refine L_row hE hR h fun r43 h => ?_; cbv
            refine L_put hE hR h fun l44 e h => ?_; cbv at e; rw [e]; clear e
            cases h; (cbv; (try simp only [e_rnil hR]); repeat' (first | exact trivial | exact rfl | exact Or.inr trivial | apply And.intro))
          refine hN5 _ (_, _, m5) [] h (Nat.lt_succ_self _) trivial ?_; (cbv; (try simp only [e_rnil hR]); repeat' (first | exact trivial | exact rfl | exact Or.inr trivial | apply And.intro))
        refine hX5 _ _ ?_; cbv
        cases h; (cbv; (try simp only [e_rnil hR]); repeat' (first | exact trivial | exact rfl | exact Or.inr trivial | apply And.intro))
      cases h; (cbv; (try simp only [e_rnil hR]); repeat' (first | exact trivial | exact rfl | exact Or.inr trivial | apply And.intro))
    refine L_rowN hE hR h fun r45 h => ?_; cbv
    refine L_listB hE hR h (fun _ e => r15_from_w (fun e => ih e) e) rfl (by subst hR; rfl) flat_B fun l46 h => ?_; cbv
    refine hN4 _ (_, _, _, m4) [(2, 3)] h (Nat.lt_succ_self _) ⟨hf _, hf _, trivial⟩ ?_; (cbv; (try simp only [e_rnil hR]); repeat' (first | exact trivial | exact rfl | exact Or.inr trivial | apply And.intro))
  refine hX4 _ _ ?_; cbv
  exact And.left (hQ _ _ rfl (.inl ⟨_, rfl, by cases h; subst hR; rfl⟩))
end Gn
end Go.Proofs.YtpplemjjeefpdaaGreatDoor
