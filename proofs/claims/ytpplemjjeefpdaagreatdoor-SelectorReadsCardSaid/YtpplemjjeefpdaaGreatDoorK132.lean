/- Texts that the proof leans on. -/
import Derived.ChangeKeysEq
import Derived.WalkKit
import Derived.KernelRfl
import Derived.Lib.TrailingZeros
import Derived.Shelf.Unicode.DecodeSlow
import Derived.Laws.Tables
import Derived.Laws.MakeOwn
import Derived.Maps.AppendAt
import Derived.Laws.BytesString
import Derived.Laws.IdiomStrings
import Derived.Laws.StructEq
import Derived.Lib.OthersKept
import Derived.Lib.AppendStr
import Derived.Laws.CopyRow
import Derived.Still
import Derived.StillTail
import Derived.LoopN
import Derived.Test.YtpplemjjeefpdaaGreatDoorProg
import Derived.Laws.BitsAllLaws
import Derived.Below
import Derived.Calls
import Derived.Deep.Draws
import Derived.WalkSpells
import Derived.Deep.QuietTactic
import Derived.BigQuiet
import Derived.BigRegion
import Derived.RegionTactic
import Derived.WalkLawsBesides
import Derived.Shelf.Spec.TrailingZeros
import Derived.Defers
import Derived.Recover
import Derived.Laws.Pointers
import Derived.Lib.Builder
import Derived.Lib.UnsafeStr
import Derived.Shelf.RegionOpenPlain
import Derived.Laws.Externs
import Derived.Shelf.Small.Bits
import Derived.Shelf.Small.Strs
import Derived.Shelf.Strconv.Itoa0
import Derived.Shelf.Strings.Search1
import Derived.Shelf.Sort.Plain
import Derived.Shelf.Unicode.Decode
import Derived.Shelf.Unicode.DecodeAny
import Derived.Shelf.Slices.CompactS
import Derived.Ground.Names2Prog
import Derived.Shelf.Slices.SearchI
import Derived.Shelf.Slices.Cells
import Derived.Shelf.Slices.In.SortNone
import Derived.Sort.EncStr
import Derived.Sort.Grow
import Derived.Test.YtpplemjjeefpdaaGreatDoorK131
import Derived.Test.YtpplemjjeefpdaaGreatDoorK128
import Derived.Test.YtpplemjjeefpdaaGreatDoorK127
import Derived.Test.YtpplemjjeefpdaaGreatDoorK123
import Derived.Test.YtpplemjjeefpdaaGreatDoorK114
import Derived.Test.YtpplemjjeefpdaaGreatDoorK113
import Derived.Test.YtpplemjjeefpdaaGreatDoorK112
import Derived.Test.YtpplemjjeefpdaaGreatDoorK111
import Derived.Test.YtpplemjjeefpdaaGreatDoorK110
import Derived.Test.YtpplemjjeefpdaaGreatDoorK109
import Derived.Test.YtpplemjjeefpdaaGreatDoorK108
import Derived.Test.YtpplemjjeefpdaaGreatDoorK107
import Derived.Test.YtpplemjjeefpdaaGreatDoorK106
import Derived.Test.YtpplemjjeefpdaaGreatDoorK105
import Derived.Test.YtpplemjjeefpdaaGreatDoorK104
import Derived.Test.YtpplemjjeefpdaaGreatDoorK103
import Derived.Test.YtpplemjjeefpdaaGreatDoorK102
import Derived.Test.YtpplemjjeefpdaaGreatDoorK101
import Derived.Test.YtpplemjjeefpdaaGreatDoorK122
import Derived.Test.YtpplemjjeefpdaaGreatDoorK121
import Derived.Test.YtpplemjjeefpdaaGreatDoorK120
import Derived.Test.YtpplemjjeefpdaaGreatDoorK117
import Derived.Test.YtpplemjjeefpdaaGreatDoorK115
import Derived.Test.YtpplemjjeefpdaaGreatDoorK116
import Derived.Test.YtpplemjjeefpdaaGreatDoorK119
import Derived.Test.YtpplemjjeefpdaaGreatDoorK118
import Derived.Test.YtpplemjjeefpdaaGreatDoorK126
import Derived.Test.YtpplemjjeefpdaaGreatDoorK125
import Derived.Test.YtpplemjjeefpdaaGreatDoorK124
namespace Go.Proofs.YtpplemjjeefpdaaGreatDoor
open Go Go.RowKit
set_option linter.unusedVariables false
set_option linter.unusedSimpArgs false
set_option maxRecDepth 100000
set_option maxHeartbeats 4000000
open Ab Sh
namespace Gn
theorem r13_join_w {N : Nat} {p0 : Int} {p1 : List Node} {r : Node} (h : r13_join_g N p0 p1 = some r) : FunS Tryz.prog 129 [fI .i64 p0, .t (.slc (rw _ nodeRow p1))] (r13_join_s rw) r := by
  refine fun_w lay_ok Tryz.call129 Tryz.func129 rfl ?_
  intro A W E Q R hE hR hf hQ; rcases W with ⟨ar, cm, conj, cv, sl, sc, ct, sa, ss, ll, _, _, _, _, mi, mx, _, _, _⟩
  rw [← hR]
  unfold r13_join_g at h
  skip
  cbv
  refine L_for hE lay_ok 1 (fun g : Int × (List Node) × Nat => [(5, .lst 1), (6, fI .i64 g.1)]) (fun g => [(1, .list 81 8 (R _ nodeRow g.2.1))]) (fun g => r13_join_l1 p0 p1 g.2.2 g.1 g.2.1 = some r) (fun g => g.2.2) (_, _, N) h ?_ ?_
  · (cbv; (try simp only [e_rnil hR]); repeat' (first | exact trivial | exact rfl | exact Or.inr trivial | apply And.intro))
  rintro ⟨v1, v2, m1⟩ h Q1 hN1 hT1 hX1
  have h : r13_join_l1 p0 p1 m1 v1 v2 = some r := h
  cases m1 with
  | zero => exact nomatch (show (none : Option _) = some _ from h)
  | succ m1 =>
  rw [r13_join_l1] at h
  rw [q_ar hE, q_cm hE, q_ll hE, ← hR] at h
  cbv
  refine L_if hE h (fun h => ?_) (fun h => ?_) <;> cbv
  · refine L_rowN hE hR h fun r3 h => ?_; cbv
    refine L_cdJ hE lay_ok h 2 (fun j2 : (List Node) => [(5, .lst 1)]) (fun j2 => [(1, .list 81 8 (R _ nodeRow j2))]) (fun j2 h => ?_) (fun j2 h => ?_) <;> cbv
    · refine L_if hE h (fun h => ?_) (fun h => ?_) <;> cbv
      · refine L_rowN hE hR h fun r4 h => ?_; cbv
        refine L_app hE hR h (hf _) nodeRow_len (by decide) fun l5 e h => ?_; cbv at e; rw [e]; clear e
        cases h; (cbv; (try simp only [e_rnil hR]); repeat' (first | exact trivial | exact rfl | exact Or.inr trivial | apply And.intro))
      refine L_rowN hE hR h fun r6 h => ?_; cbv
      refine L_lit hR (e := nodeRow) h (node_new hR) fun l7 e h => ?_; cbv at e; rw [e]; clear e
      refine L_app hE hR h (hf _) nodeRow_len (by decide) fun l8 e h => ?_; cbv at e; rw [e]; clear e
      cases h; (cbv; (try simp only [e_rnil hR]); repeat' (first | exact trivial | exact rfl | exact Or.inr trivial | apply And.intro))
    refine hN1 _ (_, _, m1) [] h (Nat.lt_succ_self _) trivial ?_; (cbv; (try simp only [e_rnil hR]); repeat' (first | exact trivial | exact rfl | exact Or.inr trivial | apply And.intro))
  refine hX1 _ _ ?_; cbv
  refine L_if hE h (fun h => ?_) (fun h => ?_) <;> cbv
  · refine L_rowN hE hR h fun r9 h => ?_; cbv
    refine L_rowN hE hR h fun r10 h => ?_; cbv
    exact And.left (hQ _ _ _ rfl rfl (by cases h; subst hR; rfl))
  exact And.left (hQ _ _ _ rfl rfl (by cases h; subst hR; rfl))
theorem r13_bad_w {p0 : Int} {p1 : Int} {r : Gr13_P} (h : r13_bad_g p0 p1 = some r) : FunS Tryz.prog 130 [fI .i64 p0, fI .i64 p1] (r13_bad_s rw) r := by
  refine fun_w lay_ok Tryz.call130 Tryz.func130 rfl ?_
  intro A W E Q R hE hR hf hQ; rcases W with ⟨ar, cm, conj, cv, sl, sc, ct, sa, ss, ll, _, _, _, _, mi, mx, _, _, _⟩
  unfold r13_bad_g at h
  skip
  cbv
  exact And.left (hQ _ _ _ rfl rfl (by cases h; subst hR; rfl))
theorem r13_other_w {p0 : ByteArray} {p1 : Int} {r : Gr13_P} (h : r13_other_g p0 p1 = some r) : FunS Tryz.prog 85 [fS p0, fI .i64 p1] (r13_other_s rw) r := by
  refine fun_w lay_ok Tryz.call85 Tryz.func85 rfl ?_
  intro A W E Q R hE hR hf hQ; rcases W with ⟨ar, cm, conj, cv, sl, sc, ct, sa, ss, ll, _, _, _, _, mi, mx, _, _, _⟩
  unfold r13_other_g at h
  rw [q_cm hE, q_sl hE] at h
  cbv
  refine L_if hE h (fun h => ?_) (fun h => ?_) <;> cbv
  · refine L_call hE hR h (fun _ e => r13_bad_w e) rfl rfl fun a1 h => ?_; cbv
    exact And.left (hQ _ _ _ rfl rfl (by cases h; subst hR; rfl))
  refine L_call hE hR h (fun _ e => r13_bad_w e) rfl rfl fun a2 h => ?_; cbv
  exact And.left (hQ _ _ _ rfl rfl (by cases h; subst hR; rfl))
theorem r13_is_w {p0 : ByteArray} {p1 : Int} {p2 : Int} {r : Bool} (h : r13_is_g p0 p1 p2 = some r) : FunS Tryz.prog 128 [fS p0, fI .i64 p1, fI .u8 p2] (r13_is_s rw) r := by
  refine fun_w lay_ok Tryz.call128 Tryz.func128 rfl ?_
  intro A W E Q R hE hR hf hQ; rcases W with ⟨ar, cm, conj, cv, sl, sc, ct, sa, ss, ll, _, _, _, _, mi, mx, _, _, _⟩
  unfold r13_is_g at h
  rw [q_cm hE, q_sl hE, q_sa hE] at h
  cbv
  refine L_rgJ hE lay_ok h 0 (fun j1 : Bool => [(6, fB j1)]) (fun j1 => []) (fun j1 h => ?_) (fun j1 h => ?_) <;> cbv
  · refine L_if hE h (fun h => ?_) (fun h => ?_) <;> cbv
    · refine L_sin hE h fun h => ?_
      cases h; (cbv; (try simp only [e_rnil hR]); repeat' (first | exact trivial | exact rfl | exact Or.inr trivial | apply And.intro))
    cases h; (cbv; (try simp only [e_rnil hR]); repeat' (first | exact trivial | exact rfl | exact Or.inr trivial | apply And.intro))
  exact And.left (hQ _ _ _ rfl rfl (by cases h; subst hR; rfl))
theorem r13_among_w {N : Nat} {p0 : Int} {p1 : ByteArray} {r : Bool} (h : r13_among_g N p0 p1 = some r) : FunS Tryz.prog 167 [fI .u8 p0, fS p1] (r13_among_s rw) r := by
  refine fun_w lay_ok Tryz.call167 Tryz.func167 rfl ?_
  intro A W E Q R hE hR hf hQ; rcases W with ⟨ar, cm, conj, cv, sl, sc, ct, sa, ss, ll, _, _, _, _, mi, mx, _, _, _⟩
  unfold r13_among_g at h
  skip
  cbv
  refine L_for hE lay_ok 0 (fun g : Int × Nat => [(4, fB false), (5, fI .i64 g.1)]) (fun g => []) (fun g => r13_among_l1 p0 p1 g.2 g.1 = some r) (fun g => g.2) (_, N) h ?_ ?_
  · (cbv; (try simp only [e_rnil hR]); repeat' (first | exact trivial | exact rfl | exact Or.inr trivial | apply And.intro))
  rintro ⟨v1, m1⟩ h Q1 hN1 hT1 hX1
  have h : r13_among_l1 p0 p1 m1 v1 = some r := h
  cases m1 with
  | zero => exact nomatch (show (none : Option _) = some _ from h)
  | succ m1 =>
  rw [r13_among_l1] at h
  rw [q_ar hE, q_cm hE, q_sl hE, q_sa hE] at h
  cbv
  refine L_if hE h (fun h => ?_) (fun h => ?_) <;> cbv
  · refine L_sin hE h fun h => ?_
    refine L_if hE h (fun h => ?_) (fun h => ?_) <;> cbv
    · refine hT1 _ ?_
      exact And.left (hQ _ _ _ rfl rfl (by cases h; subst hR; rfl))
    refine hN1 _ (_, m1) [] h (Nat.lt_succ_self _) trivial ?_; (cbv; (try simp only [e_rnil hR]); repeat' (first | exact trivial | exact rfl | exact Or.inr trivial | apply And.intro))
  refine hX1 _ _ ?_; cbv
  exact And.left (hQ _ _ _ rfl rfl (by cases h; subst hR; rfl))
end Gn
end Go.Proofs.YtpplemjjeefpdaaGreatDoor
namespace Go.Proofs.YtpplemjjeefpdaaGreatDoor
open Go Go.RowKit
set_option linter.unusedVariables false
set_option linter.unusedSimpArgs false
set_option maxRecDepth 100000
set_option maxHeartbeats 4000000
open Ab Sh
namespace Gn
theorem r13_Digits_w {r : CSet} (h : r13_Digits_g = some r) : FunS Tryz.prog 179 [] (r13_Digits_s rw) r := by
  refine fun_w lay_ok Tryz.call179 Tryz.func179 rfl ?_
  intro A W E Q R hE hR hf hQ; rcases W with ⟨ar, cm, conj, cv, sl, sc, ct, sa, ss, ll, _, _, _, _, mi, mx, _, _, _⟩
  unfold r13_Digits_g at h
  skip
  cbv
  refine L_call hE hR h (fun _ e => r12_Between_w e) rfl rfl fun a1 h => ?_; cbv
  exact And.left (hQ _ _ _ rfl rfl (by cases h; subst hR; rfl))
theorem r13_Words_w {r : CSet} (h : r13_Words_g = some r) : FunS Tryz.prog 180 [] (r13_Words_s rw) r := by
  refine fun_w lay_ok Tryz.call180 Tryz.func180 rfl ?_
  intro A W E Q R hE hR hf hQ; rcases W with ⟨ar, cm, conj, cv, sl, sc, ct, sa, ss, ll, _, _, _, _, mi, mx, _, _, _⟩
  unfold r13_Words_g at h
  skip
  cbv
  refine L_call hE hR h (fun _ e => r12_Between_w e) rfl rfl fun a1 h => ?_; cbv
  refine L_call hE hR h (fun _ e => r12_Between_w e) rfl rfl fun a2 h => ?_; cbv
  refine L_call hE hR h (fun _ e => r12_Or_w e) rfl rfl fun a3 h => ?_; cbv
  refine L_call hE hR h (fun _ e => r12_Between_w e) rfl rfl fun a4 h => ?_; cbv
  refine L_call hE hR h (fun _ e => r12_Or_w e) rfl rfl fun a5 h => ?_; cbv
  refine L_call hE hR h (fun _ e => r12_With_w e) rfl rfl fun a6 h => ?_; cbv
  exact And.left (hQ _ _ _ rfl rfl (by cases h; subst hR; rfl))
theorem r13_hex_w {p0 : Int} {r : Int} (h : r13_hex_g p0 = some r) : FunS Tryz.prog 181 [fI .u8 p0] (r13_hex_s rw) r := by
  refine fun_w lay_ok Tryz.call181 Tryz.func181 rfl ?_
  intro A W E Q R hE hR hf hQ; rcases W with ⟨ar, cm, conj, cv, sl, sc, ct, sa, ss, ll, _, _, _, _, mi, mx, _, _, _⟩
  unfold r13_hex_g at h
  rw [q_ar hE, q_cm hE, q_cv hE] at h
  cbv
  refine L_rgJ hE lay_ok h 0 (fun j1 : Bool => [(8, fB j1)]) (fun j1 => []) (fun j1 h => ?_) (fun j1 h => ?_) <;> cbv
  · refine L_if hE h (fun h => ?_) (fun h => ?_) <;> cbv
    · cases h; (cbv; (try simp only [e_rnil hR]); repeat' (first | exact trivial | exact rfl | exact Or.inr trivial | apply And.intro))
    cases h; (cbv; (try simp only [e_rnil hR]); repeat' (first | exact trivial | exact rfl | exact Or.inr trivial | apply And.intro))
  refine L_if hE h (fun h => ?_) (fun h => ?_) <;> cbv
  · exact And.left (hQ _ _ _ rfl rfl (by cases h; subst hR; rfl))
  refine L_rgJ hE lay_ok h 0 (fun j2 : Bool => [(17, fB j2)]) (fun j2 => []) (fun j2 h => ?_) (fun j2 h => ?_) <;> cbv
  · refine L_if hE h (fun h => ?_) (fun h => ?_) <;> cbv
    · cases h; (cbv; (try simp only [e_rnil hR]); repeat' (first | exact trivial | exact rfl | exact Or.inr trivial | apply And.intro))
    cases h; (cbv; (try simp only [e_rnil hR]); repeat' (first | exact trivial | exact rfl | exact Or.inr trivial | apply And.intro))
  refine L_if hE h (fun h => ?_) (fun h => ?_) <;> cbv
  · exact And.left (hQ _ _ _ rfl rfl (by cases h; subst hR; rfl))
  exact And.left (hQ _ _ _ rfl rfl (by cases h; subst hR; rfl))
theorem r13_escape_w {N : Nat} {p0 : ByteArray} {p1 : Int} {r : Gr13_P} (h : r13_escape_g N p0 p1 = some r) : FunS Tryz.prog 170 [fS p0, fI .i64 p1] (r13_escape_s rw) r := by
  refine fun_w lay_ok Tryz.call170 Tryz.func170 rfl ?_
  intro A W E Q R hE hR hf hQ; rcases W with ⟨ar, cm, conj, cv, sl, sc, ct, sa, ss, ll, _, _, _, _, mi, mx, _, _, _⟩
  unfold r13_escape_g at h
  rw [q_ar hE, q_cm hE, q_cv hE, q_sl hE, q_sa hE] at h
  cbv
  refine L_if hE h (fun h => ?_) (fun h => ?_) <;> cbv
  · refine L_call hE hR h (fun _ e => r13_bad_w e) rfl rfl fun a1 h => ?_; cbv
    exact And.left (hQ _ _ _ rfl rfl (by cases h; subst hR; rfl))
  refine L_sin hE h fun h => ?_
  refine L_if hE h (fun h => ?_) (fun h => ?_) <;> cbv
  · refine L_call hE hR h (fun _ e => r13_Digits_w e) rfl rfl fun a2 h => ?_; cbv
    exact And.left (hQ _ _ _ rfl rfl (by cases h; subst hR; rfl))
  refine L_if hE h (fun h => ?_) (fun h => ?_) <;> cbv
  · refine L_call hE hR h (fun _ e => r13_Words_w e) rfl rfl fun a3 h => ?_; cbv
    exact And.left (hQ _ _ _ rfl rfl (by cases h; subst hR; rfl))
  refine L_if hE h (fun h => ?_) (fun h => ?_) <;> cbv
  · refine L_for hE lay_ok 1 (fun g : Int × Int × Nat => [(6, fI .i64 g.1), (7, fI .i64 g.2.1)]) (fun g => []) (fun g => r13_escape_l1 p0 p1 g.2.2 g.1 g.2.1 = some r) (fun g => g.2.2) (_, _, N) h ?_ ?_
    · (cbv; (try simp only [e_rnil hR]); repeat' (first | exact trivial | exact rfl | exact Or.inr trivial | apply And.intro))
    rintro ⟨v4, v5, m1⟩ h Q1 hN1 hT1 hX1
    have h : r13_escape_l1 p0 p1 m1 v4 v5 = some r := h
    cases m1 with
    | zero => exact nomatch (show (none : Option _) = some _ from h)
    | succ m1 =>
    rw [r13_escape_l1] at h
    rw [q_ar hE, q_cm hE, q_sl hE, q_sa hE] at h
    cbv
    refine L_if hE h (fun h => ?_) (fun h => ?_) <;> cbv
    · refine L_if hE h (fun h => ?_) (fun h => ?_) <;> cbv
      · refine L_call hE hR h (fun _ e => r13_bad_w e) rfl rfl fun a6 h => ?_; cbv
        refine hT1 _ ?_
        exact And.left (hQ _ _ _ rfl rfl (by cases h; subst hR; rfl))
      refine L_sin hE h fun h => ?_
      refine L_call hE hR h (fun _ e => r13_hex_w e) rfl rfl fun a7 h => ?_; cbv
      refine L_if hE h (fun h => ?_) (fun h => ?_) <;> cbv
      · refine L_call hE hR h (fun _ e => r13_bad_w e) rfl rfl fun a8 h => ?_; cbv
        refine hT1 _ ?_
        exact And.left (hQ _ _ _ rfl rfl (by cases h; subst hR; rfl))
      refine L_sin hE h fun h => ?_
      refine L_call hE hR h (fun _ e => r13_hex_w e) rfl rfl fun a9 h => ?_; cbv
      refine hN1 _ (_, _, m1) [] h (Nat.lt_succ_self _) trivial ?_; (cbv; (try simp only [e_rnil hR]); repeat' (first | exact trivial | exact rfl | exact Or.inr trivial | apply And.intro))
    refine hX1 _ _ ?_; cbv
    refine L_call hE hR h (fun _ e => r12_Between_w e) rfl rfl fun a10 h => ?_; cbv
    exact And.left (hQ _ _ _ rfl rfl (by cases h; subst hR; rfl))
  refine L_call hE hR h (fun _ e => r13_among_w e) rfl rfl fun a11 h => ?_; cbv
  refine L_if hE h (fun h => ?_) (fun h => ?_) <;> cbv
  · refine L_call hE hR h (fun _ e => r12_Between_w e) rfl rfl fun a12 h => ?_; cbv
    exact And.left (hQ _ _ _ rfl rfl (by cases h; subst hR; rfl))
  refine L_call hE hR h (fun _ e => r13_bad_w e) rfl rfl fun a13 h => ?_; cbv
  exact And.left (hQ _ _ _ rfl rfl (by cases h; subst hR; rfl))
theorem r13_sign_w {N : Nat} {p0 : ByteArray} {p1 : Int} {r : Gr13_P} (h : r13_sign_g N p0 p1 = some r) : FunS Tryz.prog 186 [fS p0, fI .i64 p1] (r13_sign_s rw) r := by
  refine fun_w lay_ok Tryz.call186 Tryz.func186 rfl ?_
  intro A W E Q R hE hR hf hQ; rcases W with ⟨ar, cm, conj, cv, sl, sc, ct, sa, ss, ll, _, _, _, _, mi, mx, _, _, _⟩
  unfold r13_sign_g at h
  rw [q_ar hE, q_cm hE, q_cv hE, q_sl hE, q_sa hE] at h
  cbv
  refine L_rgJ hE lay_ok h 1 (fun j1 : Bool => [(14, fB j1)]) (fun j1 => []) (fun j1 h => ?_) (fun j1 h => ?_) <;> cbv
  · refine L_if hE h (fun h => ?_) (fun h => ?_) <;> cbv
    · cases h; (cbv; (try simp only [e_rnil hR]); repeat' (first | exact trivial | exact rfl | exact Or.inr trivial | apply And.intro))
    refine L_sin hE h fun h => ?_
    refine L_call hE hR h (fun _ e => r13_among_w e) rfl rfl fun a1 h => ?_; cbv
    cases h; (cbv; (try simp only [e_rnil hR]); repeat' (first | exact trivial | exact rfl | exact Or.inr trivial | apply And.intro))
  refine L_if hE h (fun h => ?_) (fun h => ?_) <;> cbv
  · refine L_call hE hR h (fun _ e => r13_other_w e) rfl rfl fun a2 h => ?_; cbv
    exact And.left (hQ _ _ _ rfl rfl (by cases h; subst hR; rfl))
  refine L_sin hE h fun h => ?_
  refine L_if hE h (fun h => ?_) (fun h => ?_) <;> cbv
  · refine L_call hE hR h (fun _ e => r13_escape_w e) rfl rfl fun a3 h => ?_; cbv
    exact And.left (hQ _ _ _ rfl rfl (by cases h; subst hR; rfl))
  refine L_tail hE lay_ok (by kernel_rfl) 12 (by kernel_rfl) ?_; cbv
  refine L_sin hE h fun h => ?_
  refine L_sin hE h fun h => ?_
  refine L_pcall hE hR h (fun _ e => r12_Between_w e) rfl rfl fun a4 h => ?_; cbv
  exact And.left (hQ _ _ _ rfl rfl (by cases h; subst hR; rfl))
end Gn
end Go.Proofs.YtpplemjjeefpdaaGreatDoor
namespace Go.Proofs.YtpplemjjeefpdaaGreatDoor
open Go Go.RowKit
set_option linter.unusedVariables false
set_option linter.unusedSimpArgs false
set_option maxRecDepth 100000
set_option maxHeartbeats 4000000
open Ab Sh
namespace Gn
theorem r13_item_w {N : Nat} {p0 : ByteArray} {p1 : Int} {r : Gr13_P} (h : r13_item_g N p0 p1 = some r) : FunS Tryz.prog 176 [fS p0, fI .i64 p1] (r13_item_s rw) r := by
  refine fun_w lay_ok Tryz.call176 Tryz.func176 rfl ?_
  intro A W E Q R hE hR hf hQ; rcases W with ⟨ar, cm, conj, cv, sl, sc, ct, sa, ss, ll, _, _, _, _, mi, mx, _, _, _⟩
  unfold r13_item_g at h
  rw [q_ar hE, q_cm hE] at h
  cbv
  refine L_call hE hR h (fun _ e => r13_sign_w e) rfl rfl fun a1 h => ?_; cbv
  refine L_rgJ hE lay_ok h 2 (fun j1 : Bool => [(26, fB j1)]) (fun j1 => []) (fun j1 h => ?_) (fun j1 h => ?_) <;> cbv
  · refine L_if hE h (fun h => ?_) (fun h => ?_) <;> cbv
    · cases h; (cbv; (try simp only [e_rnil hR]); repeat' (first | exact trivial | exact rfl | exact Or.inr trivial | apply And.intro))
    refine L_if hE h (fun h => ?_) (fun h => ?_) <;> cbv
    · cases h; (cbv; (try simp only [e_rnil hR]); repeat' (first | exact trivial | exact rfl | exact Or.inr trivial | apply And.intro))
    refine L_call hE hR h (fun _ e => r13_is_w e) rfl rfl fun a2 h => ?_; cbv
    cases h; (cbv; (try simp only [e_rnil hR]); repeat' (first | exact trivial | exact rfl | exact Or.inr trivial | apply And.intro))
  refine L_if hE h (fun h => ?_) (fun h => ?_) <;> cbv
  · exact And.left (hQ _ _ _ rfl rfl (by cases h; subst hR; rfl))
  refine L_call hE hR h (fun _ e => r13_sign_w e) rfl rfl fun a3 h => ?_; cbv
  refine L_if hE h (fun h => ?_) (fun h => ?_) <;> cbv
  · exact And.left (hQ _ _ _ rfl rfl (by cases h; subst hR; rfl))
  refine L_whole hE lay_ok (by kernel_rfl) (by kernel_rfl) ?_; cbv
  refine L_pcall hE hR h (fun _ e => r12_First_w e) rfl rfl fun a4 h => ?_; cbv
  refine L_pcall hE hR h (fun _ e => r12_First_w e) rfl rfl fun a5 h => ?_; cbv
  refine L_rgJ hE lay_ok h 11 (fun j2 : Bool => [(50, fB j2)]) (fun j2 => []) (fun j2 h => ?_) (fun j2 h => ?_) <;> cbv
  · refine L_if hE h (fun h => ?_) (fun h => ?_) <;> cbv
    · cases h; (cbv; (try simp only [e_rnil hR]); repeat' (first | exact trivial | exact rfl | exact Or.inr trivial | apply And.intro))
    cases h; (cbv; (try simp only [e_rnil hR]); repeat' (first | exact trivial | exact rfl | exact Or.inr trivial | apply And.intro))
  refine L_if hE h (fun h => ?_) (fun h => ?_) <;> cbv
  · refine L_call hE hR h (fun _ e => r13_bad_w e) rfl rfl fun a6 h => ?_; cbv
    exact And.left (hQ _ _ _ rfl rfl (by cases h; subst hR; rfl))
  refine L_tail hE lay_ok (by kernel_rfl) 6 (by kernel_rfl) ?_; cbv
  refine L_pcall hE hR h (fun _ e => r12_Between_w e) rfl rfl fun a7 h => ?_; cbv
  exact And.left (hQ _ _ _ rfl rfl (by cases h; subst hR; rfl))
theorem r13_class_w {N : Nat} {p0 : ByteArray} {p1 : Int} {r : Gr13_P} (h : r13_class_g N p0 p1 = some r) : FunS Tryz.prog 169 [fS p0, fI .i64 p1] (r13_class_s rw) r := by
  refine fun_w lay_ok Tryz.call169 Tryz.func169 rfl ?_
  intro A W E Q R hE hR hf hQ; rcases W with ⟨ar, cm, conj, cv, sl, sc, ct, sa, ss, ll, _, _, _, _, mi, mx, _, _, _⟩
  unfold r13_class_g at h
  rw [q_ar hE, q_cm hE] at h
  cbv
  refine L_call hE hR h (fun _ e => r13_is_w e) rfl rfl fun a1 h => ?_; cbv
  refine L_cdJ hE lay_ok h 1 (fun j1 : Int => [(1, fI .i64 j1)]) (fun j1 => []) (fun j1 h => ?_) (fun j1 h => ?_) <;> cbv
  · refine L_if hE h (fun h => ?_) (fun h => ?_) <;> cbv
    · cases h; (cbv; (try simp only [e_rnil hR]); repeat' (first | exact trivial | exact rfl | exact Or.inr trivial | apply And.intro))
    cases h; (cbv; (try simp only [e_rnil hR]); repeat' (first | exact trivial | exact rfl | exact Or.inr trivial | apply And.intro))
  refine L_call hE hR h (fun _ e => r13_item_w e) rfl rfl fun a2 h => ?_; cbv
  refine L_if hE h (fun h => ?_) (fun h => ?_) <;> cbv
  · exact And.left (hQ _ _ _ rfl rfl (by cases h; subst hR; rfl))
  refine L_for hE lay_ok 3 (fun g : Int × Int × CSet × (List Node) × Int × Int × CSet × Bool × Int × Int × Int × CSet × Nat => [(1, fI .i64 g.1)]) (fun g => [(1, .box 109 [fI .i64 g.2.1, fI .u64 (g.2.2.1.a.toNat : Int), fI .u64 (g.2.2.1.b.toNat : Int), fI .u64 (g.2.2.1.c.toNat : Int), fI .u64 (g.2.2.1.d.toNat : Int), .t (.slc (R _ nodeRow g.2.2.2.1)), fI .i64 g.2.2.2.2.1, fI .i64 g.2.2.2.2.2.1, fI .u64 (g.2.2.2.2.2.2.1.a.toNat : Int), fI .u64 (g.2.2.2.2.2.2.1.b.toNat : Int), fI .u64 (g.2.2.2.2.2.2.1.c.toNat : Int), fI .u64 (g.2.2.2.2.2.2.1.d.toNat : Int), fB g.2.2.2.2.2.2.2.1, fI .i64 g.2.2.2.2.2.2.2.2.1, fI .i64 g.2.2.2.2.2.2.2.2.2.1, fI .i64 g.2.2.2.2.2.2.2.2.2.2.1]), (2, .box 78 [fI .u64 (g.2.2.2.2.2.2.2.2.2.2.2.1.a.toNat : Int), fI .u64 (g.2.2.2.2.2.2.2.2.2.2.2.1.b.toNat : Int), fI .u64 (g.2.2.2.2.2.2.2.2.2.2.2.1.c.toNat : Int), fI .u64 (g.2.2.2.2.2.2.2.2.2.2.2.1.d.toNat : Int)])]) (fun g => r13_class_l1 N p0 a1 g.2.2.2.2.2.2.2.2.2.2.2.2 g.1 g.2.1 g.2.2.1 g.2.2.2.1 g.2.2.2.2.1 g.2.2.2.2.2.1 g.2.2.2.2.2.2.1 g.2.2.2.2.2.2.2.1 g.2.2.2.2.2.2.2.2.1 g.2.2.2.2.2.2.2.2.2.1 g.2.2.2.2.2.2.2.2.2.2.1 g.2.2.2.2.2.2.2.2.2.2.2.1 = some r) (fun g => g.2.2.2.2.2.2.2.2.2.2.2.2) (_, _, _, _, _, _, _, _, _, _, _, _, N) h ?_ ?_
  · (cbv; (try simp only [e_rnil hR]); repeat' (first | exact trivial | exact rfl | exact Or.inr trivial | apply And.intro))
  rintro ⟨v3, v4, v5, v6, v7, v8, v9, v10, v11, v12, v13, v14, m1⟩ h Q1 hN1 hT1 hX1
  have h : r13_class_l1 N p0 a1 m1 v3 v4 v5 v6 v7 v8 v9 v10 v11 v12 v13 v14 = some r := h
  cases m1 with
  | zero => exact nomatch (show (none : Option _) = some _ from h)
  | succ m1 =>
  rw [r13_class_l1] at h
  rw [q_ar hE, q_cm hE] at h
  cbv
  refine L_call hE hR h (fun _ e => r13_is_w e) rfl rfl fun a15 h => ?_; cbv
  refine L_if hE h (fun h => ?_) (fun h => ?_) <;> cbv
  · refine L_call hE hR h (fun _ e => r13_item_w e) rfl rfl fun a16 h => ?_; cbv
    refine L_if hE h (fun h => ?_) (fun h => ?_) <;> cbv
    · refine hT1 _ ?_
      exact And.left (hQ _ _ _ rfl rfl (by cases h; subst hR; rfl))
    refine L_call hE hR h (fun _ e => r12_Or_w e) rfl rfl fun a17 h => ?_; cbv
    refine hN1 _ (_, _, _, _, _, _, _, _, _, _, _, _, m1) [] h (Nat.lt_succ_self _) trivial ?_; (cbv; (try simp only [e_rnil hR]); repeat' (first | exact trivial | exact rfl | exact Or.inr trivial | apply And.intro))
  refine hX1 _ _ ?_; cbv
  refine L_cdJ hE lay_ok h 3 (fun j3 : CSet => []) (fun j3 => [(2, .box 78 [fI .u64 (j3.a.toNat : Int), fI .u64 (j3.b.toNat : Int), fI .u64 (j3.c.toNat : Int), fI .u64 (j3.d.toNat : Int)])]) (fun j3 h => ?_) (fun j3 h => ?_) <;> cbv
  · refine L_if hE h (fun h => ?_) (fun h => ?_) <;> cbv
    · refine L_call hE hR h (fun _ e => r12_Not_w e) rfl rfl fun a18 h => ?_; cbv
      cases h; (cbv; (try simp only [e_rnil hR]); repeat' (first | exact trivial | exact rfl | exact Or.inr trivial | apply And.intro))
    cases h; (cbv; (try simp only [e_rnil hR]); repeat' (first | exact trivial | exact rfl | exact Or.inr trivial | apply And.intro))
  exact And.left (hQ _ _ _ rfl rfl (by cases h; subst hR; rfl))
theorem r13_rep_w {p0 : Node} {p1 : Int} {p2 : Int} {p3 : Int} {r : Gr13_P} (h : r13_rep_g p0 p1 p2 p3 = some r) : FunS Tryz.prog 163 [.agg [fI .i64 p0.kind, fI .u64 (p0.set.a.toNat : Int), fI .u64 (p0.set.b.toNat : Int), fI .u64 (p0.set.c.toNat : Int), fI .u64 (p0.set.d.toNat : Int), .t (.slc (rw _ nodeRow p0.kids)), fI .i64 p0.min, fI .i64 p0.max], fI .i64 p1, fI .i64 p2, fI .i64 p3] (r13_rep_s rw) r := by
  refine fun_w lay_ok Tryz.call163 Tryz.func163 rfl ?_
  intro A W E Q R hE hR hf hQ; rcases W with ⟨ar, cm, conj, cv, sl, sc, ct, sa, ss, ll, _, _, _, _, mi, mx, _, _, _⟩
  rw [← hR]
  unfold r13_rep_g at h
  skip
  cbv
  refine L_lit hR (e := nodeRow) h (node_new hR) fun l1 e h => ?_; cbv at e; rw [e]; clear e
  exact And.left (hQ _ _ _ rfl rfl (by cases h; subst hR; rfl))
theorem r13_number_w {N : Nat} {p0 : ByteArray} {p1 : Int} {r : Int × Gr13_P} (h : r13_number_g N p0 p1 = some r) : FunS Tryz.prog 171 [fS p0, fI .i64 p1] (r13_number_s rw) r := by
  refine fun_w lay_ok Tryz.call171 Tryz.func171 rfl ?_
  intro A W E Q R hE hR hf hQ; rcases W with ⟨ar, cm, conj, cv, sl, sc, ct, sa, ss, ll, _, _, _, _, mi, mx, _, _, _⟩
  unfold r13_number_g at h
  skip
  cbv
  refine L_for hE lay_ok 1 (fun g : Int × Int × Nat => [(6, fI .i64 g.1), (7, fI .i64 g.2.1)]) (fun g => []) (fun g => r13_number_l1 p0 p1 g.2.2 g.1 g.2.1 = some r) (fun g => g.2.2) (_, _, N) h ?_ ?_
  · (cbv; (try simp only [e_rnil hR]); repeat' (first | exact trivial | exact rfl | exact Or.inr trivial | apply And.intro))
  rintro ⟨v1, v2, m1⟩ h Q1 hN1 hT1 hX1
  have h : r13_number_l1 p0 p1 m1 v1 v2 = some r := h
  cases m1 with
  | zero => exact nomatch (show (none : Option _) = some _ from h)
  | succ m1 =>
  rw [r13_number_l1] at h
  rw [q_ar hE, q_cm hE, q_cv hE, q_sl hE, q_sa hE] at h
  cbv
  refine L_rgJ hE lay_ok h 1 (fun j1 : Bool => [(24, fB j1)]) (fun j1 => []) (fun j1 h => ?_) (fun j1 h => ?_) <;> cbv
  · refine L_if hE h (fun h => ?_) (fun h => ?_) <;> cbv
    · refine L_sin hE h fun h => ?_
      refine L_if hE h (fun h => ?_) (fun h => ?_) <;> cbv
      · refine L_sin hE h fun h => ?_
        cases h; (cbv; (try simp only [e_rnil hR]); repeat' (first | exact trivial | exact rfl | exact Or.inr trivial | apply And.intro))
      cases h; (cbv; (try simp only [e_rnil hR]); repeat' (first | exact trivial | exact rfl | exact Or.inr trivial | apply And.intro))
    cases h; (cbv; (try simp only [e_rnil hR]); repeat' (first | exact trivial | exact rfl | exact Or.inr trivial | apply And.intro))
  refine L_if hE h (fun h => ?_) (fun h => ?_) <;> cbv
  · refine L_cdJ hE lay_ok h 1 (fun j2 : Int => [(7, fI .i64 j2)]) (fun j2 => []) (fun j2 h => ?_) (fun j2 h => ?_) <;> cbv
    · refine L_if hE h (fun h => ?_) (fun h => ?_) <;> cbv
      · refine L_sin hE h fun h => ?_
        cases h; (cbv; (try simp only [e_rnil hR]); repeat' (first | exact trivial | exact rfl | exact Or.inr trivial | apply And.intro))
      cases h; (cbv; (try simp only [e_rnil hR]); repeat' (first | exact trivial | exact rfl | exact Or.inr trivial | apply And.intro))
    refine hN1 _ (_, _, m1) [] h (Nat.lt_succ_self _) trivial ?_; (cbv; (try simp only [e_rnil hR]); repeat' (first | exact trivial | exact rfl | exact Or.inr trivial | apply And.intro))
  refine hX1 _ _ ?_; cbv
  refine L_if hE h (fun h => ?_) (fun h => ?_) <;> cbv
  · refine L_call hE hR h (fun _ e => r13_other_w e) rfl rfl fun a3 h => ?_; cbv
    exact And.left (hQ _ _ _ rfl rfl (by cases h; subst hR; rfl))
  refine L_rgJ hE lay_ok h 1 (fun j3 : Bool => [(52, fB j3)]) (fun j3 => []) (fun j3 h => ?_) (fun j3 h => ?_) <;> cbv
  · refine L_sin hE h fun h => ?_
    refine L_if hE h (fun h => ?_) (fun h => ?_) <;> cbv
    · cases h; (cbv; (try simp only [e_rnil hR]); repeat' (first | exact trivial | exact rfl | exact Or.inr trivial | apply And.intro))
    cases h; (cbv; (try simp only [e_rnil hR]); repeat' (first | exact trivial | exact rfl | exact Or.inr trivial | apply And.intro))
  refine L_if hE h (fun h => ?_) (fun h => ?_) <;> cbv
  · refine L_call hE hR h (fun _ e => r13_bad_w e) rfl rfl fun a4 h => ?_; cbv
    exact And.left (hQ _ _ _ rfl rfl (by cases h; subst hR; rfl))
  refine L_if hE h (fun h => ?_) (fun h => ?_) <;> cbv
  · refine L_call hE hR h (fun _ e => r13_bad_w e) rfl rfl fun a5 h => ?_; cbv
    exact And.left (hQ _ _ _ rfl rfl (by cases h; subst hR; rfl))
  exact And.left (hQ _ _ _ rfl rfl (by cases h; subst hR; rfl))
theorem r13_braces_w {N : Nat} {p0 : ByteArray} {p1 : Node} {p2 : Int} {r : Gr13_P} (h : r13_braces_g N p0 p1 p2 = some r) : FunS Tryz.prog 164 [fS p0, .agg [fI .i64 p1.kind, fI .u64 (p1.set.a.toNat : Int), fI .u64 (p1.set.b.toNat : Int), fI .u64 (p1.set.c.toNat : Int), fI .u64 (p1.set.d.toNat : Int), .t (.slc (rw _ nodeRow p1.kids)), fI .i64 p1.min, fI .i64 p1.max], fI .i64 p2] (r13_braces_s rw) r := by
  refine fun_w lay_ok Tryz.call164 Tryz.func164 rfl ?_
  intro A W E Q R hE hR hf hQ; rcases W with ⟨ar, cm, conj, cv, sl, sc, ct, sa, ss, ll, _, _, _, _, mi, mx, _, _, _⟩
  rw [← hR]
  unfold r13_braces_g at h
  rw [q_ar hE, q_cm hE] at h
  cbv
  refine L_call hE hR h (fun _ e => r13_number_w e) rfl rfl fun a1 h => ?_; cbv
  refine L_if hE h (fun h => ?_) (fun h => ?_) <;> cbv
  · exact And.left (hQ _ _ _ rfl rfl (by cases h; subst hR; rfl))
  refine L_rgJ hE lay_ok h 3 (fun j1 : Bool => [(36, fB j1)]) (fun j1 => []) (fun j1 h => ?_) (fun j1 h => ?_) <;> cbv
  · refine L_call hE hR h (fun _ e => r13_is_w e) rfl rfl fun a2 h => ?_; cbv
    refine L_if hE h (fun h => ?_) (fun h => ?_) <;> cbv
    · refine L_call hE hR h (fun _ e => r13_is_w e) rfl rfl fun a3 h => ?_; cbv
      cases h; (cbv; (try simp only [e_rnil hR]); repeat' (first | exact trivial | exact rfl | exact Or.inr trivial | apply And.intro))
    cases h; (cbv; (try simp only [e_rnil hR]); repeat' (first | exact trivial | exact rfl | exact Or.inr trivial | apply And.intro))
  refine L_if hE h (fun h => ?_) (fun h => ?_) <;> cbv
  · refine L_call hE hR h (fun _ e => r13_rep_w e) (by subst hR; rfl) rfl fun a4 h => ?_; cbv
    exact And.left (hQ _ _ _ rfl rfl (by cases h; subst hR; rfl))
  refine L_call hE hR h (fun _ e => r13_is_w e) rfl rfl fun a5 h => ?_; cbv
  refine L_cd hE lay_ok ?_; cbv
  refine L_if hE h (fun h => ?_) (fun h => ?_) <;> cbv
  · refine L_call hE hR h (fun _ e => r13_number_w e) rfl rfl fun a6 h => ?_; cbv
    refine L_if hE h (fun h => ?_) (fun h => ?_) <;> cbv
    · exact And.left (hQ _ _ _ rfl rfl (by cases h; subst hR; rfl))
    refine L_rgJ hE lay_ok h 3 (fun j2 : Bool => [(67, fB j2)]) (fun j2 => []) (fun j2 h => ?_) (fun j2 h => ?_) <;> cbv
    · refine L_if hE h (fun h => ?_) (fun h => ?_) <;> cbv
      · cases h; (cbv; (try simp only [e_rnil hR]); repeat' (first | exact trivial | exact rfl | exact Or.inr trivial | apply And.intro))
      cases h; (cbv; (try simp only [e_rnil hR]); repeat' (first | exact trivial | exact rfl | exact Or.inr trivial | apply And.intro))
    refine L_if hE h (fun h => ?_) (fun h => ?_) <;> cbv
    · refine L_call hE hR h (fun _ e => r13_bad_w e) rfl rfl fun a7 h => ?_; cbv
      exact And.left (hQ _ _ _ rfl rfl (by cases h; subst hR; rfl))
    refine L_call hE hR h (fun _ e => r13_is_w e) rfl rfl fun a8 h => ?_; cbv
    refine L_if hE h (fun h => ?_) (fun h => ?_) <;> cbv
    · refine L_call hE hR h (fun _ e => r13_other_w e) rfl rfl fun a9 h => ?_; cbv
      exact And.left (hQ _ _ _ rfl rfl (by cases h; subst hR; rfl))
    refine L_call hE hR h (fun _ e => r13_rep_w e) (by subst hR; rfl) rfl fun a10 h => ?_; cbv
    exact And.left (hQ _ _ _ rfl rfl (by cases h; subst hR; rfl))
  refine L_rgJ hE lay_ok h 3 (fun j3 : Bool => [(67, fB j3)]) (fun j3 => []) (fun j3 h => ?_) (fun j3 h => ?_) <;> cbv
  · refine L_if hE h (fun h => ?_) (fun h => ?_) <;> cbv
    · cases h; (cbv; (try simp only [e_rnil hR]); repeat' (first | exact trivial | exact rfl | exact Or.inr trivial | apply And.intro))
    cases h; (cbv; (try simp only [e_rnil hR]); repeat' (first | exact trivial | exact rfl | exact Or.inr trivial | apply And.intro))
  refine L_if hE h (fun h => ?_) (fun h => ?_) <;> cbv
  · refine L_call hE hR h (fun _ e => r13_bad_w e) rfl rfl fun a11 h => ?_; cbv
    exact And.left (hQ _ _ _ rfl rfl (by cases h; subst hR; rfl))
  refine L_call hE hR h (fun _ e => r13_is_w e) rfl rfl fun a12 h => ?_; cbv
  refine L_if hE h (fun h => ?_) (fun h => ?_) <;> cbv
  · refine L_call hE hR h (fun _ e => r13_other_w e) rfl rfl fun a13 h => ?_; cbv
    exact And.left (hQ _ _ _ rfl rfl (by cases h; subst hR; rfl))
  refine L_call hE hR h (fun _ e => r13_rep_w e) (by subst hR; rfl) rfl fun a14 h => ?_; cbv
  exact And.left (hQ _ _ _ rfl rfl (by cases h; subst hR; rfl))
end Gn
end Go.Proofs.YtpplemjjeefpdaaGreatDoor
