/- Texts that the proof leans on. -/
import Derived.ChangeKeysEq
import Derived.WalkKit
import Derived.KernelRfl
import Derived.Lib.TrailingZeros
import Derived.Shelf.Unicode.DecodeSlow
import Derived.Laws.Tables
import Derived.Laws.MakeOwn
import Derived.Maps.AppendAt
import Derived.Laws.BytesString
import Derived.Laws.IdiomStrings
import Derived.Laws.StructEq
import Derived.Lib.OthersKept
import Derived.Lib.AppendStr
import Derived.Laws.CopyRow
import Derived.Still
import Derived.StillTail
import Derived.LoopN
import Derived.Test.YtpplemjjeefpdaaGreatDoorProg
import Derived.Laws.BitsAllLaws
import Derived.Below
import Derived.Calls
import Derived.Deep.Draws
import Derived.WalkSpells
import Derived.Deep.QuietTactic
import Derived.BigQuiet
import Derived.BigRegion
import Derived.RegionTactic
import Derived.WalkLawsBesides
import Derived.Shelf.Spec.TrailingZeros
import Derived.Defers
import Derived.Recover
import Derived.Laws.Pointers
import Derived.Lib.Builder
import Derived.Lib.UnsafeStr
import Derived.Shelf.RegionOpenPlain
import Derived.Laws.Externs
import Derived.Shelf.Small.Bits
import Derived.Shelf.Small.Strs
import Derived.Shelf.Strconv.Itoa0
import Derived.Shelf.Strings.Search1
import Derived.Shelf.Sort.Plain
import Derived.Shelf.Unicode.Decode
import Derived.Shelf.Unicode.DecodeAny
import Derived.Shelf.Slices.CompactS
import Derived.Ground.Names2Prog
import Derived.Shelf.Slices.SearchI
import Derived.Shelf.Slices.Cells
import Derived.Shelf.Slices.In.SortNone
import Derived.Sort.EncStr
import Derived.Sort.Grow
import Derived.Test.YtpplemjjeefpdaaGreatDoorK131
import Derived.Test.YtpplemjjeefpdaaGreatDoorK140
import Derived.Test.YtpplemjjeefpdaaGreatDoorK128
import Derived.Test.YtpplemjjeefpdaaGreatDoorK138
import Derived.Test.YtpplemjjeefpdaaGreatDoorK127
import Derived.Test.YtpplemjjeefpdaaGreatDoorK123
import Derived.Test.YtpplemjjeefpdaaGreatDoorK114
import Derived.Test.YtpplemjjeefpdaaGreatDoorK113
import Derived.Test.YtpplemjjeefpdaaGreatDoorK112
import Derived.Test.YtpplemjjeefpdaaGreatDoorK111
import Derived.Test.YtpplemjjeefpdaaGreatDoorK110
import Derived.Test.YtpplemjjeefpdaaGreatDoorK109
import Derived.Test.YtpplemjjeefpdaaGreatDoorK108
import Derived.Test.YtpplemjjeefpdaaGreatDoorK107
import Derived.Test.YtpplemjjeefpdaaGreatDoorK106
import Derived.Test.YtpplemjjeefpdaaGreatDoorK105
import Derived.Test.YtpplemjjeefpdaaGreatDoorK104
import Derived.Test.YtpplemjjeefpdaaGreatDoorK103
import Derived.Test.YtpplemjjeefpdaaGreatDoorK102
import Derived.Test.YtpplemjjeefpdaaGreatDoorK101
import Derived.Test.YtpplemjjeefpdaaGreatDoorK122
import Derived.Test.YtpplemjjeefpdaaGreatDoorK121
import Derived.Test.YtpplemjjeefpdaaGreatDoorK120
import Derived.Test.YtpplemjjeefpdaaGreatDoorK117
import Derived.Test.YtpplemjjeefpdaaGreatDoorK115
import Derived.Test.YtpplemjjeefpdaaGreatDoorK116
import Derived.Test.YtpplemjjeefpdaaGreatDoorK119
import Derived.Test.YtpplemjjeefpdaaGreatDoorK118
import Derived.Test.YtpplemjjeefpdaaGreatDoorK126
import Derived.Test.YtpplemjjeefpdaaGreatDoorK125
import Derived.Test.YtpplemjjeefpdaaGreatDoorK124
import Derived.Test.YtpplemjjeefpdaaGreatDoorK133
import Derived.Test.YtpplemjjeefpdaaGreatDoorK132
import Derived.Test.YtpplemjjeefpdaaGreatDoorK137
import Derived.Test.YtpplemjjeefpdaaGreatDoorK141
import Derived.Test.YtpplemjjeefpdaaGreatDoorK136
import Derived.Test.YtpplemjjeefpdaaGreatDoorK135
import Derived.Test.YtpplemjjeefpdaaGreatDoorK134
namespace Go.Proofs.YtpplemjjeefpdaaGreatDoor
open Go Go.RowKit
set_option linter.unusedVariables false
set_option linter.unusedSimpArgs false
set_option maxRecDepth 100000
set_option maxHeartbeats 4000000
open Ab Sh
namespace Gn
theorem r15_Match_w {N : Nat} {p0 : Node} {p1 : ByteArray} {r : Bool} (h : r15_Match_g N p0 p1 = some r) : FunS Tryz.prog 105 [.agg [fI .i64 p0.kind, fI .u64 (p0.set.a.toNat : Int), fI .u64 (p0.set.b.toNat : Int), fI .u64 (p0.set.c.toNat : Int), fI .u64 (p0.set.d.toNat : Int), .t (.slc (rw _ nodeRow p0.kids)), fI .i64 p0.min, fI .i64 p0.max], fS p1] (r15_Match_s rw) r := by
  refine fun_w lay_ok Tryz.call105 Tryz.func105 rfl ?_
  intro A W E Q R hE hR hf hQ; rcases W with ⟨ar, cm, conj, cv, sl, sc, ct, sa, ss, ll, _, _, _, _, mi, mx, _, _, _⟩
  rw [← hR]
  unfold r15_Match_g at h
  rw [q_sl hE] at h
  cbv
  refine L_call hE hR h (fun _ e => r13_Right_w e) (by subst hR; rfl) rfl fun a1 h => ?_; cbv
  refine L_if hE h (fun h => ?_) (fun h => ?_) <;> cbv
  · exact And.left (hQ _ _ _ rfl rfl (by cases h; subst hR; rfl))
  refine L_list hE hR h (fun _ e => r15_ends_w e) (by subst hR; rfl) rfl fun l2 h => ?_; cbv
  refine L_row hE hR h fun r3 h => ?_; cbv
  refine L_row hE hR h fun r4 h => ?_; cbv
  exact And.left (hQ _ _ _ rfl rfl (by cases h; subst hR; rfl))
theorem r22_Test_w {N : Nat} {p0 : GMatcher} {p1 : ByteArray} {r : Bool} (h : r22_Test_g N p0 p1 = some r) : FunS Tryz.prog 75 [.agg [fS p0.Name, fI .i64 p0.Op, fS p0.Value], fS p1] (r22_Test_s rw) r := by
  refine fun_w lay_ok Tryz.call75 Tryz.func75 rfl ?_
  intro A W E Q R hE hR hf hQ; rcases W with ⟨ar, cm, conj, cv, sl, sc, ct, sa, ss, ll, _, _, _, _, mi, mx, _, _, _⟩
  unfold r22_Test_g at h
  rw [q_cm hE, q_sc hE] at h
  cbv
  refine L_call hE hR h (fun _ e => r22_Right_w e) rfl rfl fun a1 h => ?_; cbv
  refine L_if hE h (fun h => ?_) (fun h => ?_) <;> cbv
  · exact And.left (hQ _ _ _ rfl rfl (by cases h; subst hR; rfl))
  refine L_if hE h (fun h => ?_) (fun h => ?_) <;> cbv
  · exact And.left (hQ _ _ _ rfl rfl (by cases h; subst hR; rfl))
  refine L_if hE h (fun h => ?_) (fun h => ?_) <;> cbv
  · exact And.left (hQ _ _ _ rfl rfl (by cases h; subst hR; rfl))
  refine L_call hE hR h (fun _ e => r13_Parse_w e) rfl rfl fun a2 h => ?_; cbv
  refine L_if hE h (fun h => ?_) (fun h => ?_) <;> cbv
  · refine L_call hE hR h (fun _ e => r15_Match_w e) (by subst hR; rfl) rfl fun a3 h => ?_; cbv
    exact And.left (hQ _ _ _ rfl rfl (by cases h; subst hR; rfl))
  refine L_call hE hR h (fun _ e => r15_Match_w e) (by subst hR; rfl) rfl fun a4 h => ?_; cbv
  exact And.left (hQ _ _ _ rfl rfl (by cases h; subst hR; rfl))
theorem r11_Get_w {N : Nat} {p0 : List GLabel} {p1 : ByteArray} {r : ByteArray} (h : r11_Get_g N p0 p1 = some r) : FunS Tryz.prog 76 [.t (.slc (rw _ cLabel p0)), fS p1] (r11_Get_s rw) r := by
  refine fun_w lay_ok Tryz.call76 Tryz.func76 rfl ?_
  intro A W E Q R hE hR hf hQ; rcases W with ⟨ar, cm, conj, cv, sl, sc, ct, sa, ss, ll, _, _, _, _, mi, mx, _, _, _⟩
  rw [← hR]
  unfold r11_Get_g at h
  skip
  cbv
  refine L_for hE lay_ok 0 (fun g : Int × Nat => [(4, fS ByteArray.empty), (5, fI .i64 g.1)]) (fun g => []) (fun g => r11_Get_l1 p0 p1 g.2 g.1 = some r) (fun g => g.2) (_, N) h ?_ ?_
  · (cbv; (try simp only [e_rnil hR]); repeat' (first | exact trivial | exact rfl | exact Or.inr trivial | apply And.intro))
  rintro ⟨v1, m1⟩ h Q1 hN1 hT1 hX1
  have h : r11_Get_l1 p0 p1 m1 v1 = some r := h
  cases m1 with
  | zero => exact nomatch (show (none : Option _) = some _ from h)
  | succ m1 =>
  rw [r11_Get_l1] at h
  rw [q_ar hE, q_cm hE, q_sc hE, q_ll hE, ← hR] at h
  cbv
  refine L_if hE h (fun h => ?_) (fun h => ?_) <;> cbv
  · refine L_row hE hR h fun r2 h => ?_; cbv
    refine L_if hE h (fun h => ?_) (fun h => ?_) <;> cbv
    · refine L_row hE hR h fun r3 h => ?_; cbv
      refine hT1 _ ?_
      exact And.left (hQ _ _ _ rfl rfl (by cases h; subst hR; rfl))
    refine hN1 _ (_, m1) [] h (Nat.lt_succ_self _) trivial ?_; (cbv; (try simp only [e_rnil hR]); repeat' (first | exact trivial | exact rfl | exact Or.inr trivial | apply And.intro))
  refine hX1 _ _ ?_; cbv
  exact And.left (hQ _ _ _ rfl rfl (by cases h; subst hR; rfl))
theorem r22_Holds_w {N : Nat} {p0 : GMatcher} {p1 : List GLabel} {r : Bool} (h : r22_Holds_g N p0 p1 = some r) : FunS Tryz.prog 43 [.agg [fS p0.Name, fI .i64 p0.Op, fS p0.Value], .t (.slc (rw _ cLabel p1))] (r22_Holds_s rw) r := by
  refine fun_w lay_ok Tryz.call43 Tryz.func43 rfl ?_
  intro A W E Q R hE hR hf hQ; rcases W with ⟨ar, cm, conj, cv, sl, sc, ct, sa, ss, ll, _, _, _, _, mi, mx, _, _, _⟩
  rw [← hR]
  unfold r22_Holds_g at h
  skip
  cbv
  refine L_whole hE lay_ok (by kernel_rfl) (by kernel_rfl) ?_; cbv
  refine L_pcall hE hR h (fun _ e => r11_Get_w e) (by subst hR; rfl) rfl fun a1 h => ?_; cbv
  refine L_pcall hE hR h (fun _ e => r22_Test_w e) rfl rfl fun a2 h => ?_; cbv
  exact And.left (hQ _ _ _ rfl rfl (by cases h; subst hR; rfl))
theorem r23_Holds_w {N : Nat} {p0 : List GMatcher} {p1 : List GLabel} {r : Bool} (h : r23_Holds_g N p0 p1 = some r) : FunS Tryz.prog 19 [.t (.slc (rw _ cMatcher p0)), .t (.slc (rw _ cLabel p1))] (r23_Holds_s rw) r := by
  refine fun_w lay_ok Tryz.call19 Tryz.func19 rfl ?_
  intro A W E Q R hE hR hf hQ; rcases W with ⟨ar, cm, conj, cv, sl, sc, ct, sa, ss, ll, _, _, _, _, mi, mx, _, _, _⟩
  rw [← hR]
  unfold r23_Holds_g at h
  skip
  cbv
  refine L_for hE lay_ok 0 (fun g : Int × Nat => [(4, fB false), (5, fI .i64 g.1)]) (fun g => []) (fun g => r23_Holds_l1 N p0 p1 g.2 g.1 = some r) (fun g => g.2) (_, N) h ?_ ?_
  · (cbv; (try simp only [e_rnil hR]); repeat' (first | exact trivial | exact rfl | exact Or.inr trivial | apply And.intro))
  rintro ⟨v1, m1⟩ h Q1 hN1 hT1 hX1
  have h : r23_Holds_l1 N p0 p1 m1 v1 = some r := h
  cases m1 with
  | zero => exact nomatch (show (none : Option _) = some _ from h)
  | succ m1 =>
  rw [r23_Holds_l1] at h
  rw [q_ar hE, q_cm hE, q_ll hE, ← hR] at h
  cbv
  refine L_if hE h (fun h => ?_) (fun h => ?_) <;> cbv
  · refine L_row hE hR h fun r2 h => ?_; cbv
    refine L_call hE hR h (fun _ e => r22_Holds_w e) (by subst hR; rfl) rfl fun a3 h => ?_; cbv
    refine L_if hE h (fun h => ?_) (fun h => ?_) <;> cbv
    · refine hT1 _ ?_
      exact And.left (hQ _ _ _ rfl rfl (by cases h; subst hR; rfl))
    refine hN1 _ (_, m1) [] h (Nat.lt_succ_self _) trivial ?_; (cbv; (try simp only [e_rnil hR]); repeat' (first | exact trivial | exact rfl | exact Or.inr trivial | apply And.intro))
  refine hX1 _ _ ?_; cbv
  exact And.left (hQ _ _ _ rfl rfl (by cases h; subst hR; rfl))
end Gn
end Go.Proofs.YtpplemjjeefpdaaGreatDoor
namespace Go.Proofs.YtpplemjjeefpdaaGreatDoor
open Go Go.RowKit
set_option linter.unusedVariables false
set_option linter.unusedSimpArgs false
set_option maxRecDepth 100000
set_option maxHeartbeats 4000000
open Ab Sh
namespace Gn
theorem l23_SelectorHolds_w {N : Nat} {p0 : List GMatcher} {p1 : List GLabel} {r : Bool} (h : l23_SelectorHolds_g N p0 p1 = some r) : FunS Tryz.prog 4 [.t (.slc (rw _ cMatcher p0)), .t (.slc (rw _ cLabel p1))] (l23_SelectorHolds_s rw) r := by
  refine fun_w lay_ok Tryz.call4 Tryz.func4 rfl ?_
  intro A W E Q R hE hR hf hQ; rcases W with ⟨ar, cm, conj, cv, sl, sc, ct, sa, ss, ll, _, _, _, _, mi, mx, _, _, _⟩
  rw [← hR]
  unfold l23_SelectorHolds_g at h
  rw [q_cm hE, q_conj hE] at h
  cbv
  refine L_call hE hR h (fun _ e => r23_Great_w e) (by subst hR; rfl) rfl fun a1 h => ?_; cbv
  refine L_if hE h (fun h => ?_) (fun h => ?_) <;> cbv
  · refine L_call hE hR h (fun _ e => l23_works_w e) rfl rfl fun a2 h => ?_; cbv
    exact And.left (hQ _ _ _ rfl rfl (by cases h; subst hR; rfl))
  refine L_rgJ hE lay_ok h 0 (fun j1 : Bool => [(4, fB j1)]) (fun j1 => []) (fun j1 h => ?_) (fun j1 h => ?_) <;> cbv
  · refine L_call hE hR h (fun _ e => selector_Right_w e) (by subst hR; rfl) rfl fun a3 h => ?_; cbv
    refine L_call hE hR h (fun _ e => r23_Right_w e) (by subst hR; rfl) rfl fun a4 h => ?_; cbv
    refine L_if hE h (fun h => ?_) (fun h => ?_) <;> cbv
    · refine L_call hE hR h (fun _ e => selector_Holds_w e) (by subst hR; rfl) rfl fun a5 h => ?_; cbv
      refine L_call hE hR h (fun _ e => r23_Holds_w e) (by subst hR; rfl) rfl fun a6 h => ?_; cbv
      refine L_if hE h (fun h => ?_) (fun h => ?_) <;> cbv
      · refine L_call hE hR h (fun _ e => l23_works_w e) rfl rfl fun a7 h => ?_; cbv
        cases h; (cbv; (try simp only [e_rnil hR]); repeat' (first | exact trivial | exact rfl | exact Or.inr trivial | apply And.intro))
      cases h; (cbv; (try simp only [e_rnil hR]); repeat' (first | exact trivial | exact rfl | exact Or.inr trivial | apply And.intro))
    cases h; (cbv; (try simp only [e_rnil hR]); repeat' (first | exact trivial | exact rfl | exact Or.inr trivial | apply And.intro))
  exact And.left (hQ _ _ _ rfl rfl (by cases h; subst hR; rfl))
end Gn
end Go.Proofs.YtpplemjjeefpdaaGreatDoor
