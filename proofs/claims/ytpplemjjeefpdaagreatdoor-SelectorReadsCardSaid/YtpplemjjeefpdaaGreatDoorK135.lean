/- Texts that the proof leans on. -/
import Derived.ChangeKeysEq
import Derived.WalkKit
import Derived.KernelRfl
import Derived.Lib.TrailingZeros
import Derived.Shelf.Unicode.DecodeSlow
import Derived.Laws.Tables
import Derived.Laws.MakeOwn
import Derived.Maps.AppendAt
import Derived.Laws.BytesString
import Derived.Laws.IdiomStrings
import Derived.Laws.StructEq
import Derived.Lib.OthersKept
import Derived.Lib.AppendStr
import Derived.Laws.CopyRow
import Derived.Still
import Derived.StillTail
import Derived.LoopN
import Derived.Test.YtpplemjjeefpdaaGreatDoorProg
import Derived.Laws.BitsAllLaws
import Derived.Below
import Derived.Calls
import Derived.Deep.Draws
import Derived.WalkSpells
import Derived.Deep.QuietTactic
import Derived.BigQuiet
import Derived.BigRegion
import Derived.RegionTactic
import Derived.WalkLawsBesides
import Derived.Shelf.Spec.TrailingZeros
import Derived.Defers
import Derived.Recover
import Derived.Laws.Pointers
import Derived.Lib.Builder
import Derived.Lib.UnsafeStr
import Derived.Shelf.RegionOpenPlain
import Derived.Laws.Externs
import Derived.Shelf.Small.Bits
import Derived.Shelf.Small.Strs
import Derived.Shelf.Strconv.Itoa0
import Derived.Shelf.Strings.Search1
import Derived.Shelf.Sort.Plain
import Derived.Shelf.Unicode.Decode
import Derived.Shelf.Unicode.DecodeAny
import Derived.Shelf.Slices.CompactS
import Derived.Ground.Names2Prog
import Derived.Shelf.Slices.SearchI
import Derived.Shelf.Slices.Cells
import Derived.Shelf.Slices.In.SortNone
import Derived.Sort.EncStr
import Derived.Sort.Grow
import Derived.Test.YtpplemjjeefpdaaGreatDoorK131
import Derived.Test.YtpplemjjeefpdaaGreatDoorK128
import Derived.Test.YtpplemjjeefpdaaGreatDoorK127
import Derived.Test.YtpplemjjeefpdaaGreatDoorK123
import Derived.Test.YtpplemjjeefpdaaGreatDoorK114
import Derived.Test.YtpplemjjeefpdaaGreatDoorK113
import Derived.Test.YtpplemjjeefpdaaGreatDoorK112
import Derived.Test.YtpplemjjeefpdaaGreatDoorK111
import Derived.Test.YtpplemjjeefpdaaGreatDoorK110
import Derived.Test.YtpplemjjeefpdaaGreatDoorK109
import Derived.Test.YtpplemjjeefpdaaGreatDoorK108
import Derived.Test.YtpplemjjeefpdaaGreatDoorK107
import Derived.Test.YtpplemjjeefpdaaGreatDoorK106
import Derived.Test.YtpplemjjeefpdaaGreatDoorK105
import Derived.Test.YtpplemjjeefpdaaGreatDoorK104
import Derived.Test.YtpplemjjeefpdaaGreatDoorK103
import Derived.Test.YtpplemjjeefpdaaGreatDoorK102
import Derived.Test.YtpplemjjeefpdaaGreatDoorK101
import Derived.Test.YtpplemjjeefpdaaGreatDoorK122
import Derived.Test.YtpplemjjeefpdaaGreatDoorK121
import Derived.Test.YtpplemjjeefpdaaGreatDoorK120
import Derived.Test.YtpplemjjeefpdaaGreatDoorK117
import Derived.Test.YtpplemjjeefpdaaGreatDoorK115
import Derived.Test.YtpplemjjeefpdaaGreatDoorK116
import Derived.Test.YtpplemjjeefpdaaGreatDoorK119
import Derived.Test.YtpplemjjeefpdaaGreatDoorK118
import Derived.Test.YtpplemjjeefpdaaGreatDoorK126
import Derived.Test.YtpplemjjeefpdaaGreatDoorK125
import Derived.Test.YtpplemjjeefpdaaGreatDoorK124
import Derived.Test.YtpplemjjeefpdaaGreatDoorK134
import Derived.Test.YtpplemjjeefpdaaGreatDoorK133
namespace Go.Proofs.YtpplemjjeefpdaaGreatDoor
open Go Go.RowKit
set_option linter.unusedVariables false
set_option linter.unusedSimpArgs false
set_option maxRecDepth 100000
set_option maxHeartbeats 4000000
open Ab Sh
namespace Gn
theorem match_moved_w : ∀ {N : Nat} {p0 : Node} {p1 : ByteArray} {p2 : List Bool} {r : List Bool}, match_moved_g N p0 p1 p2 = some r → FunL Tryz.prog 220 [.agg [fI .i64 p0.kind, fI .u64 (p0.set.a.toNat : Int), fI .u64 (p0.set.b.toNat : Int), fI .u64 (p0.set.c.toNat : Int), fI .u64 (p0.set.d.toNat : Int), .t (.slc (rw _ nodeRow p0.kids)), fI .i64 p0.min, fI .i64 p0.max], fS p1, .t (.slc (rw _ cB p2))] 4 1 (rw _ cB r) := by
  intro N
  induction N with
  | zero => intros; rename_i h; exact nomatch (show (none : Option _) = some _ from h)
  | succ N ih =>
  intro p0 p1 p2 r h
  refine list_w lay_ok Tryz.call220 Tryz.func220 rfl ?_
  intro A W E Q R hE hR hf hQ; rcases W with ⟨ar, cm, conj, cv, sl, sc, ct, sa, ss, ll, _, _, _, _, mi, mx, _, _, _⟩
  rw [← hR]
  rw [match_moved_g] at h
  rw [q_cm hE, q_ll hE, ← hR] at h
  cbv
  refine L_zro hE hR h (by decide) fun l1 e h => ?_; cbv at e; rw [e]; clear e
  refine L_cd hE lay_ok ?_; cbv
  refine L_if hE h (fun h => ?_) (fun h => ?_) <;> cbv
  · refine L_for hE lay_ok 2 (fun g : Int × (List Bool) × Nat => [(7, .lst 1), (15, .lst 1), (22, fI .i64 g.1)]) (fun g => [(1, .list 4 1 (R _ cB g.2.1))]) (fun g => match_moved_l1 p0 p1 p2 g.2.2 g.1 g.2.1 = some r) (fun g => g.2.2) (_, _, N) h ?_ ?_
    · (cbv; (try simp only [e_rnil hR]); repeat' (first | exact trivial | exact rfl | exact Or.inr trivial | apply And.intro))
    rintro ⟨v2, v3, m1⟩ h Q1 hN1 hT1 hX1
    have h : match_moved_l1 p0 p1 p2 m1 v2 v3 = some r := h
    cases m1 with
    | zero => exact nomatch (show (none : Option _) = some _ from h)
    | succ m1 =>
    rw [match_moved_l1] at h
    rw [q_ar hE, q_cm hE, q_sl hE, q_sa hE] at h
    cbv
    refine L_if hE h (fun h => ?_) (fun h => ?_) <;> cbv
    · refine L_tail hE lay_ok (by kernel_rfl) 16 (by kernel_rfl) ?_; cbv
      refine L_row hE hR h fun r4 h => ?_; cbv
      refine L_if hE h (fun h => ?_) (fun h => ?_) <;> cbv
      · refine L_if hE h (fun h => ?_) (fun h => ?_) <;> cbv
        · refine L_if hE h (fun h => ?_) (fun h => ?_) <;> cbv
          · refine L_if hE h (fun h => ?_) (fun h => ?_) <;> cbv
            · refine L_if hE h (fun h => ?_) (fun h => ?_) <;> cbv
              · refine L_sin hE h fun h => ?_
                refine L_if hE h (fun h => ?_) (fun h => ?_) <;> cbv
                · refine L_pcall hE hR h (fun _ e => charset_Has_w e) rfl rfl fun a5 h => ?_; cbv
                  refine L_if hE h (fun h => ?_) (fun h => ?_) <;> cbv
                  · refine L_row hE hR h fun r6 h => ?_; cbv
                    refine L_row hE hR h fun r7 h => ?_; cbv
                    refine L_put hE hR h fun l8 e h => ?_; cbv at e; rw [e]; clear e
                    refine hN1 _ (_, _, m1) [] h (Nat.lt_succ_self _) trivial ?_; (cbv; (try simp only [e_rnil hR]); repeat' (first | exact trivial | exact rfl | exact Or.inr trivial | apply And.intro))
                  exact nomatch h
                exact nomatch h
              exact nomatch h
            exact nomatch h
          exact nomatch h
        exact nomatch h
      refine L_if hE h (fun h => ?_) (fun h => ?_) <;> cbv
      · exact nomatch h
      refine L_if hE h (fun h => ?_) (fun h => ?_) <;> cbv
      · exact nomatch h
      refine L_if hE h (fun h => ?_) (fun h => ?_) <;> cbv
      · exact nomatch h
      refine L_if hE h (fun h => ?_) (fun h => ?_) <;> cbv
      · exact nomatch h
      refine L_if hE h (fun h => ?_) (fun h => ?_) <;> cbv
      · exact nomatch h
      refine L_if hE h (fun h => ?_) (fun h => ?_) <;> cbv
      · exact nomatch h
      refine L_row hE hR h fun r9 h => ?_; cbv
      refine L_row hE hR h fun r10 h => ?_; cbv
      refine L_put hE hR h fun l11 e h => ?_; cbv at e; rw [e]; clear e
      refine hN1 _ (_, _, m1) [] h (Nat.lt_succ_self _) trivial ?_; (cbv; (try simp only [e_rnil hR]); repeat' (first | exact trivial | exact rfl | exact Or.inr trivial | apply And.intro))
    refine hX1 _ _ ?_; cbv
    exact And.left (hQ _ _ rfl (.inl ⟨_, rfl, by cases h; subst hR; rfl⟩))
  refine L_cd hE lay_ok ?_; cbv
  refine L_if hE h (fun h => ?_) (fun h => ?_) <;> cbv
  · refine L_cpy hE hR h (fun _ => rfl) fun l12 e h => ?_; cbv at e; rw [e]; clear e
    refine L_for hE lay_ok 2 (fun g : Int × (List Bool) × Nat => [(7, .lst 1), (50, fI .i64 g.1)]) (fun g => [(1, .list 4 1 (R _ cB g.2.1))]) (fun g => match_moved_l2 (match_moved_g N) p0 p1 g.2.2 g.1 g.2.1 = some r) (fun g => g.2.2) (_, _, N) h ?_ ?_
    · (cbv; (try simp only [e_rnil hR]); repeat' (first | exact trivial | exact rfl | exact Or.inr trivial | apply And.intro))
    rintro ⟨v13, v14, m2⟩ h Q2 hN2 hT2 hX2
    have h : match_moved_l2 (match_moved_g N) p0 p1 m2 v13 v14 = some r := h
    cases m2 with
    | zero => exact nomatch (show (none : Option _) = some _ from h)
    | succ m2 =>
    rw [match_moved_l2] at h
    rw [q_ar hE, q_cm hE, q_ll hE, ← hR] at h
    cbv
    refine L_if hE h (fun h => ?_) (fun h => ?_) <;> cbv
    · refine L_rowN hE hR h fun r15 h => ?_; cbv
      refine L_listB hE hR h (fun _ e => ih e) rfl (by subst hR; rfl) flat_B fun l16 h => ?_; cbv
      refine hN2 _ (_, _, m2) [(1, 3)] h (Nat.lt_succ_self _) ⟨hf _, hf _, trivial⟩ ?_; (cbv; (try simp only [e_rnil hR]); repeat' (first | exact trivial | exact rfl | exact Or.inr trivial | apply And.intro))
    refine hX2 _ _ ?_; cbv
    exact And.left (hQ _ _ rfl (.inl ⟨_, rfl, by cases h; subst hR; rfl⟩))
  refine L_cd hE lay_ok ?_; cbv
  refine L_if hE h (fun h => ?_) (fun h => ?_) <;> cbv
  · refine L_for hE lay_ok 2 (fun g : Int × (List Bool) × Nat => [(7, .lst 1), (15, .lst 1), (64, fI .i64 g.1)]) (fun g => [(1, .list 4 1 (R _ cB g.2.1))]) (fun g => match_moved_l3 (match_moved_g N) N p0 p1 p2 g.2.2 g.1 g.2.1 = some r) (fun g => g.2.2) (_, _, N) h ?_ ?_
    · (cbv; (try simp only [e_rnil hR]); repeat' (first | exact trivial | exact rfl | exact Or.inr trivial | apply And.intro))
    rintro ⟨v17, v18, m3⟩ h Q3 hN3 hT3 hX3
    have h : match_moved_l3 (match_moved_g N) N p0 p1 p2 m3 v17 v18 = some r := h
    cases m3 with
    | zero => exact nomatch (show (none : Option _) = some _ from h)
    | succ m3 =>
    rw [match_moved_l3] at h
    rw [q_cm hE, q_ll hE, ← hR] at h
    cbv
    refine L_if hE h (fun h => ?_) (fun h => ?_) <;> cbv
    · refine L_rowN hE hR h fun r19 h => ?_; cbv
      refine L_list hE hR h (fun _ e => ih e) (by subst hR; rfl) rfl fun l20 h => ?_; cbv
      refine L_keep hE lay_ok Tryz.call223 Tryz.func223 rfl ?_
      intro A4 E4 Q4 hE4 hf4 hQ4; cbv
      refine L_for hE4 lay_ok 4 (fun g : Bool × Int × (List Bool) × Nat => [(0, .lst 1), (1, .lst 3), (5, fB g.1), (7, .lst 1), (9, fI .i64 g.2.1)]) (fun g => [(1, .list 4 1 (R _ cB g.2.2.1))]) (fun g => match_moved_l5 (match_moved_l3 (match_moved_g N) N p0 p1 p2 m3) v17 v18 l20 g.2.2.2 g.1 g.2.1 g.2.2.1 = some r) (fun g => g.2.2.2) (_, _, _, N) h ?_ ?_
      · (cbv; (try simp only [e_rnil hR]); repeat' (first | exact trivial | exact rfl | exact Or.inr trivial | apply And.intro))
      rintro ⟨v21, v22, v23, m5⟩ h Q5 hN5 hT5 hX5
      have h : match_moved_l5 (match_moved_l3 (match_moved_g N) N p0 p1 p2 m3) v17 v18 l20 m5 v21 v22 v23 = some r := h
      cases m5 with
      | zero => exact nomatch (show (none : Option _) = some _ from h)
      | succ m5 =>
      rw [match_moved_l5] at h
      rw [q_ar hE, q_cm hE, q_ll hE, ← hR] at h
      cbv
      refine L_if hE4 h (fun h => ?_) (fun h => ?_) <;> cbv
      · refine L_rgJ hE4 lay_ok h 4 (fun j7 : Bool => [(5, fB j7)]) (fun j7 => []) (fun j7 h => ?_) (fun j7 h => ?_) <;> cbv
        · refine L_if hE4 h (fun h => ?_) (fun h => ?_) <;> cbv
          · cases h; (cbv; (try simp only [e_rnil hR]); repeat' (first | exact trivial | exact rfl | exact Or.inr trivial | apply And.intro))
          refine L_row hE4 hR h fun r24 h => ?_; cbv
          refine L_row hE4 hR h fun r25 h => ?_; cbv
          refine L_if hE4 h (fun h => ?_) (fun h => ?_) <;> cbv
          · refine L_row hE4 hR h fun r26 h => ?_; cbv
            refine L_row hE4 hR h fun r27 h => ?_; cbv
            cases h; (cbv; (try simp only [e_rnil hR]); repeat' (first | exact trivial | exact rfl | exact Or.inr trivial | apply And.intro))
          cases h; (cbv; (try simp only [e_rnil hR]); repeat' (first | exact trivial | exact rfl | exact Or.inr trivial | apply And.intro))
        refine L_rgJ hE4 lay_ok h 4 (fun j8 : (List Bool) => []) (fun j8 => [(1, .list 4 1 (R _ cB j8))]) (fun j8 h => ?_) (fun j8 h => ?_) <;> cbv
        · refine L_row hE4 hR h fun r28 h => ?_; cbv
          refine L_row hE4 hR h fun r29 h => ?_; cbv
          refine L_if hE4 h (fun h => ?_) (fun h => ?_) <;> cbv
          · refine L_row hE4 hR h fun r30 h => ?_; cbv
            refine L_row hE4 hR h fun r31 h => ?_; cbv
            refine L_put hE4 hR h fun l32 e h => ?_; cbv at e; rw [e]; clear e
            cases h; (cbv; (try simp only [e_rnil hR]); repeat' (first | exact trivial | exact rfl | exact Or.inr trivial | apply And.intro))
          refine L_row hE4 hR h fun r33 h => ?_; cbv
          refine L_row hE4 hR h fun r34 h => ?_; cbv
          refine L_row hE4 hR h fun r35 h => ?_; cbv
          refine L_row hE4 hR h fun r36 h => ?_; cbv
          refine L_put hE4 hR h fun l37 e h => ?_; cbv at e; rw [e]; clear e
          cases h; (cbv; (try simp only [e_rnil hR]); repeat' (first | exact trivial | exact rfl | exact Or.inr trivial | apply And.intro))
        refine hN5 _ (_, _, _, m5) [] h (Nat.lt_succ_self _) trivial ?_; (cbv; (try simp only [e_rnil hR]); repeat' (first | exact trivial | exact rfl | exact Or.inr trivial | apply And.intro))
      refine hX5 _ _ ?_; cbv
      refine And.left (hQ4 _ _ rfl ?_); cbv
      refine hN3 _ (_, _, m3) [] h (Nat.lt_succ_self _) trivial ?_; (cbv; (try simp only [e_rnil hR]); repeat' (first | exact trivial | exact rfl | exact Or.inr trivial | apply And.intro))
    refine hX3 _ _ ?_; cbv
    exact And.left (hQ _ _ rfl (.inl ⟨_, rfl, by cases h; subst hR; rfl⟩))
  refine L_if hE h (fun h => ?_) (fun h => ?_) <;> cbv
  · refine L_list hE hR h (fun _ e => match_often_w (fun e => ih e) e) (by subst hR; rfl) rfl fun l38 h => ?_; cbv
    exact And.left (hQ _ _ rfl (.inl ⟨_, rfl, by cases h; subst hR; rfl⟩))
  exact And.left (hQ _ _ rfl (.inl ⟨_, rfl, by cases h; subst hR; rfl⟩))
theorem match_Ends_w {N : Nat} {p0 : Node} {p1 : ByteArray} {p2 : Int} {r : List Int} (h : match_Ends_g N p0 p1 p2 = some r) : FunL Tryz.prog 217 [.agg [fI .i64 p0.kind, fI .u64 (p0.set.a.toNat : Int), fI .u64 (p0.set.b.toNat : Int), fI .u64 (p0.set.c.toNat : Int), fI .u64 (p0.set.d.toNat : Int), .t (.slc (rw _ nodeRow p0.kids)), fI .i64 p0.min, fI .i64 p0.max], fS p1, fI .i64 p2] 3 1 (rw _ (cI .i64) r) := by
  refine list_w lay_ok Tryz.call217 Tryz.func217 rfl ?_
  intro A W E Q R hE hR hf hQ; rcases W with ⟨ar, cm, conj, cv, sl, sc, ct, sa, ss, ll, _, _, _, _, mi, mx, _, _, _⟩
  rw [← hR]
  unfold match_Ends_g at h
  rw [q_ar hE, q_cm hE, q_sl hE] at h
  cbv
  refine L_rgJ hE lay_ok h 1 (fun j1 : Bool => [(23, fB j1)]) (fun j1 => []) (fun j1 h => ?_) (fun j1 h => ?_) <;> cbv
  · refine L_call hE hR h (fun _ e => regex_Right_w e) (by subst hR; rfl) rfl fun a1 h => ?_; cbv
    refine L_if hE h (fun h => ?_) (fun h => ?_) <;> cbv
    · cases h; (cbv; (try simp only [e_rnil hR]); repeat' (first | exact trivial | exact rfl | exact Or.inr trivial | apply And.intro))
    refine L_if hE h (fun h => ?_) (fun h => ?_) <;> cbv
    · cases h; (cbv; (try simp only [e_rnil hR]); repeat' (first | exact trivial | exact rfl | exact Or.inr trivial | apply And.intro))
    cases h; (cbv; (try simp only [e_rnil hR]); repeat' (first | exact trivial | exact rfl | exact Or.inr trivial | apply And.intro))
  refine L_if hE h (fun h => ?_) (fun h => ?_) <;> cbv
  · exact And.left (hQ _ _ rfl (.inr ⟨rfl, by cases h; rfl⟩))
  refine L_zro hE hR h (by decide) fun l2 e h => ?_; cbv at e; rw [e]; clear e
  refine L_row hE hR h fun r3 h => ?_; cbv
  refine L_row hE hR h fun r4 h => ?_; cbv
  refine L_put hE hR h fun l5 e h => ?_; cbv at e; rw [e]; clear e
  refine L_listB hE hR h (fun _ e => match_moved_w e) rfl (by subst hR; rfl) flat_B fun l6 h => ?_; cbv
  refine L_for hE lay_ok 3 (fun g : Int × (List Int) × Nat => [(7, .lst 1), (8, .lst 3), (27, .lst 1), (28, .lst 1), (30, .elt 1 p2 0), (33, .lst 1), (34, .lst 2), (36, fI .i64 g.1)]) (fun g => [(3, .list 3 1 (R _ (cI .i64) g.2.1))]) (fun g => match_Ends_l1 l6 g.2.2 g.1 g.2.1 = some r) (fun g => g.2.2) (_, _, N) h ?_ ?_
  · (cbv; (try simp only [e_rnil hR]); repeat' (first | exact trivial | exact rfl | exact Or.inr trivial | apply And.intro))
  rintro ⟨v7, v8, m1⟩ h Q1 hN1 hT1 hX1
  have h : match_Ends_l1 l6 m1 v7 v8 = some r := h
  cases m1 with
  | zero => exact nomatch (show (none : Option _) = some _ from h)
  | succ m1 =>
  rw [match_Ends_l1] at h
  rw [q_ar hE, q_cm hE, q_ll hE, ← hR] at h
  cbv
  refine L_if hE h (fun h => ?_) (fun h => ?_) <;> cbv
  · refine L_row hE hR h fun r9 h => ?_; cbv
    refine L_row hE hR h fun r10 h => ?_; cbv
    refine L_cdJ hE lay_ok h 4 (fun j3 : (List Int) => [(8, .lst 3)]) (fun j3 => [(3, .list 3 1 (R _ (cI .i64) j3))]) (fun j3 h => ?_) (fun j3 h => ?_) <;> cbv
    · refine L_if hE h (fun h => ?_) (fun h => ?_) <;> cbv
      · refine L_appL hE hR h rfl (hf _) (fun _ => rfl) (by decide) fun l11 e h => ?_; cbv at e; rw [e]; clear e
        cases h; (cbv; (try simp only [e_rnil hR]); repeat' (first | exact trivial | exact rfl | exact Or.inr trivial | apply And.intro))
      cases h; (cbv; (try simp only [e_rnil hR]); repeat' (first | exact trivial | exact rfl | exact Or.inr trivial | apply And.intro))
    refine hN1 _ (_, _, m1) [] h (Nat.lt_succ_self _) trivial ?_; (cbv; (try simp only [e_rnil hR]); repeat' (first | exact trivial | exact rfl | exact Or.inr trivial | apply And.intro))
  refine hX1 _ _ ?_; cbv
  exact And.left (hQ _ _ rfl (.inl ⟨_, rfl, by cases h; subst hR; rfl⟩))
theorem match_Match_w {N : Nat} {p0 : Node} {p1 : ByteArray} {r : Bool} (h : match_Match_g N p0 p1 = some r) : FunS Tryz.prog 215 [.agg [fI .i64 p0.kind, fI .u64 (p0.set.a.toNat : Int), fI .u64 (p0.set.b.toNat : Int), fI .u64 (p0.set.c.toNat : Int), fI .u64 (p0.set.d.toNat : Int), .t (.slc (rw _ nodeRow p0.kids)), fI .i64 p0.min, fI .i64 p0.max], fS p1] (match_Match_s rw) r := by
  refine fun_w lay_ok Tryz.call215 Tryz.func215 rfl ?_
  intro A W E Q R hE hR hf hQ; rcases W with ⟨ar, cm, conj, cv, sl, sc, ct, sa, ss, ll, _, _, _, _, mi, mx, _, _, _⟩
  rw [← hR]
  unfold match_Match_g at h
  rw [q_sl hE] at h
  cbv
  refine L_list hE hR h (fun _ e => match_Ends_w e) (by subst hR; rfl) rfl fun l1 h => ?_; cbv
  refine L_bare hE hR h (fun _ e => slices_Contains_150_w e) rfl (by subst hR; rfl) (fun _ => rfl) fun a2 h => ?_; cbv
  exact And.left (hQ _ _ _ rfl rfl (by cases h; subst hR; rfl))
end Gn
end Go.Proofs.YtpplemjjeefpdaaGreatDoor
namespace Go.Proofs.YtpplemjjeefpdaaGreatDoor
open Go Go.RowKit
set_option linter.unusedVariables false
set_option linter.unusedSimpArgs false
set_option maxRecDepth 100000
set_option maxHeartbeats 4000000
open Ab Sh
namespace Gn
theorem matcher_like_ask_w {N : Nat} {p0 : Gmatcher_like} {p1 : ByteArray} {r : Bool} (h : matcher_like_ask_g N p0 p1 = some r) : FunS Tryz.prog 214 [.agg [fI .i64 p0.node.kind, fI .u64 (p0.node.set.a.toNat : Int), fI .u64 (p0.node.set.b.toNat : Int), fI .u64 (p0.node.set.c.toNat : Int), fI .u64 (p0.node.set.d.toNat : Int), .t (.slc (rw _ nodeRow p0.node.kids)), fI .i64 p0.node.min, fI .i64 p0.node.max], fS p1] (matcher_like_ask_s rw) r := by
  refine fun_w lay_ok Tryz.call214 Tryz.func214 rfl ?_
  intro A W E Q R hE hR hf hQ; rcases W with ⟨ar, cm, conj, cv, sl, sc, ct, sa, ss, ll, _, _, _, _, mi, mx, _, _, _⟩
  rw [← hR]
  unfold matcher_like_ask_g at h
  skip
  cbv
  refine L_call hE hR h (fun _ e => match_Match_w e) (by subst hR; rfl) rfl fun a1 h => ?_; cbv
  exact And.left (hQ _ _ _ rfl rfl (by cases h; subst hR; rfl))
theorem matcher_Test_w {N : Nat} {p0 : GMatcher} {p1 : ByteArray} {r : Bool} (h : matcher_Test_g N p0 p1 = some r) : FunS Tryz.prog 73 [.agg [fS p0.Name, fI .i64 p0.Op, fS p0.Value], fS p1] (matcher_Test_s rw) r := by
  refine fun_w lay_ok Tryz.call73 Tryz.func73 rfl ?_
  intro A W E Q R hE hR hf hQ; rcases W with ⟨ar, cm, conj, cv, sl, sc, ct, sa, ss, ll, _, _, _, _, mi, mx, _, _, _⟩
  unfold matcher_Test_g at h
  rw [q_cm hE, q_conj hE, q_sl hE] at h
  cbv
  refine L_keep hE lay_ok Tryz.call70 Tryz.func70 rfl ?_
  intro A1 E1 Q1 hE1 hf1 hQ1; cbv
  refine L_call hE1 hR h (fun _ e => name_Label_w e) rfl rfl fun a1 h => ?_; cbv
  refine L_if hE1 h (fun h => ?_) (fun h => ?_) <;> cbv
  · refine And.left (hQ1 _ _ rfl ?_); cbv
    refine L_if hE h (fun h => ?_) (fun h => ?_) <;> cbv
    · exact And.left (hQ _ _ _ rfl rfl (by cases h; subst hR; rfl))
    exact nomatch h
  refine L_rgJ hE1 lay_ok h 2 (fun j1 : Bool => [(13, fB j1)]) (fun j1 => []) (fun j1 h => ?_) (fun j1 h => ?_) <;> cbv
  · refine L_if hE1 h (fun h => ?_) (fun h => ?_) <;> cbv
    · cases h; (cbv; (try simp only [e_rnil hR]); repeat' (first | exact trivial | exact rfl | exact Or.inr trivial | apply And.intro))
    cases h; (cbv; (try simp only [e_rnil hR]); repeat' (first | exact trivial | exact rfl | exact Or.inr trivial | apply And.intro))
  refine L_if hE1 h (fun h => ?_) (fun h => ?_) <;> cbv
  · refine And.left (hQ1 _ _ rfl ?_); cbv
    refine L_if hE h (fun h => ?_) (fun h => ?_) <;> cbv
    · exact And.left (hQ _ _ _ rfl rfl (by cases h; subst hR; rfl))
    exact nomatch h
  refine L_rgJ hE1 lay_ok h 2 (fun j2 : Bool => [(5, fB j2)]) (fun j2 => []) (fun j2 h => ?_) (fun j2 h => ?_) <;> cbv
  · refine L_if hE1 h (fun h => ?_) (fun h => ?_) <;> cbv
    · cases h; (cbv; (try simp only [e_rnil hR]); repeat' (first | exact trivial | exact rfl | exact Or.inr trivial | apply And.intro))
    cases h; (cbv; (try simp only [e_rnil hR]); repeat' (first | exact trivial | exact rfl | exact Or.inr trivial | apply And.intro))
  refine L_rgJ hE1 lay_ok h 2 (fun j3 : Bool => [(37, fB j3)]) (fun j3 => []) (fun j3 h => ?_) (fun j3 h => ?_) <;> cbv
  · refine L_if hE1 h (fun h => ?_) (fun h => ?_) <;> cbv
    · cases h; (cbv; (try simp only [e_rnil hR]); repeat' (first | exact trivial | exact rfl | exact Or.inr trivial | apply And.intro))
    cases h; (cbv; (try simp only [e_rnil hR]); repeat' (first | exact trivial | exact rfl | exact Or.inr trivial | apply And.intro))
  refine L_if hE1 h (fun h => ?_) (fun h => ?_) <;> cbv
  · refine L_if hE1 h (fun h => ?_) (fun h => ?_) <;> cbv
    · refine And.left (hQ1 _ _ rfl ?_); cbv
      refine L_if hE h (fun h => ?_) (fun h => ?_) <;> cbv
      · exact And.left (hQ _ _ _ rfl rfl (by cases h; subst hR; rfl))
      exact nomatch h
    refine r_ifc hE1 Tryz.underlying126 rfl ?_; cbv
    refine And.left (hQ1 _ _ rfl ?_); cbv
    refine L_if hE h (fun h => ?_) (fun h => ?_) <;> cbv
    · exact nomatch h
    refine r_as_yes hE (by kernel_rfl) ?_; cbv
    refine L_rg hE lay_ok ?_; cbv
    refine L_t hE ?_; cbv
    refine r_inv (f := 213) hE (fun w u c => by kernel_rfl) ?_
    refine L_call hE hR h (fun _ e => matcher_same_ask_w e) rfl rfl fun a2 h => ?_; cbv
    exact And.left (hQ _ _ _ rfl rfl (by cases h; subst hR; rfl))
  refine L_call hE1 hR h (fun _ e => regex_Parse_w e) rfl rfl fun a3 h => ?_; cbv
  refine L_if hE1 h (fun h => ?_) (fun h => ?_) <;> cbv
  · refine L_whole hE1 lay_ok (by kernel_rfl) (by kernel_rfl) ?_; cbv
    refine And.left (hQ1 _ _ rfl ?_); cbv
    refine L_if hE h (fun h => ?_) (fun h => ?_) <;> cbv
    · exact And.left (hQ _ _ _ rfl rfl (by cases h; subst hR; rfl))
    exact nomatch h
  refine r_ifc hE1 Tryz.underlying128 rfl ?_; cbv
  refine And.left (hQ1 _ _ rfl ?_); cbv
  refine L_if hE h (fun h => ?_) (fun h => ?_) <;> cbv
  · exact nomatch h
  refine r_as_yes hE (by kernel_rfl) ?_; cbv
  refine L_rg hE lay_ok ?_; cbv
  refine L_t hE ?_; cbv
  refine r_inv (f := 214) hE (fun w u c => by kernel_rfl) ?_
  refine L_call hE hR h (fun _ e => matcher_like_ask_w e) (by subst hR; rfl) rfl fun a4 h => ?_; cbv
  exact And.left (hQ _ _ _ rfl rfl (by cases h; subst hR; rfl))
theorem labels_Get_w {N : Nat} {p0 : List GLabel} {p1 : ByteArray} {r : ByteArray} (h : labels_Get_g N p0 p1 = some r) : FunS Tryz.prog 74 [.t (.slc (rw _ cLabel p0)), fS p1] (labels_Get_s rw) r := by
  refine fun_w lay_ok Tryz.call74 Tryz.func74 rfl ?_
  intro A W E Q R hE hR hf hQ; rcases W with ⟨ar, cm, conj, cv, sl, sc, ct, sa, ss, ll, _, _, _, _, mi, mx, _, _, _⟩
  rw [← hR]
  unfold labels_Get_g at h
  skip
  cbv
  refine L_keep hE lay_ok Tryz.call103 Tryz.func103 rfl ?_
  intro A1 E1 Q1 hE1 hf1 hQ1; cbv
  refine L_for hE1 lay_ok 1 (fun g : Int × Nat => [(4, fI .i64 0), (8, fI .i64 g.1)]) (fun g => []) (fun g => labels_Get_l2 p0 p1 g.2 g.1 = some r) (fun g => g.2) (_, N) h ?_ ?_
  · (cbv; (try simp only [e_rnil hR]); repeat' (first | exact trivial | exact rfl | exact Or.inr trivial | apply And.intro))
  rintro ⟨v1, m2⟩ h Q2 hN2 hT2 hX2
  have h : labels_Get_l2 p0 p1 m2 v1 = some r := h
  cases m2 with
  | zero => exact nomatch (show (none : Option _) = some _ from h)
  | succ m2 =>
  rw [labels_Get_l2] at h
  rw [q_ar hE, q_cm hE, q_sc hE, q_ll hE, ← hR] at h
  cbv
  refine L_if hE1 h (fun h => ?_) (fun h => ?_) <;> cbv
  · refine L_row hE1 hR h fun r2 h => ?_; cbv
    refine L_keep hE1 lay_ok Tryz.call104 Tryz.func104 rfl ?_
    intro A3 E3 Q3 hE3 hf3 hQ3; cbv
    refine And.left (hQ3 _ _ rfl ?_); cbv
    refine L_if hE1 h (fun h => ?_) (fun h => ?_) <;> cbv
    · refine hT2 _ ?_
      refine And.left (hQ1 _ _ rfl ?_); cbv
      refine L_if hE h (fun h => ?_) (fun h => ?_) <;> cbv
      · exact And.left (hQ _ _ _ rfl rfl (by cases h; subst hR; rfl))
      refine L_row hE hR h fun r3 h => ?_; cbv
      exact And.left (hQ _ _ _ rfl rfl (by cases h; subst hR; rfl))
    refine hN2 _ (_, m2) [] h (Nat.lt_succ_self _) trivial ?_; (cbv; (try simp only [e_rnil hR]); repeat' (first | exact trivial | exact rfl | exact Or.inr trivial | apply And.intro))
  refine hX2 _ _ ?_; cbv
  refine And.left (hQ1 _ _ rfl ?_); cbv
  refine L_if hE h (fun h => ?_) (fun h => ?_) <;> cbv
  · exact And.left (hQ _ _ _ rfl rfl (by cases h; subst hR; rfl))
  exact nomatch h
theorem matcher_Holds_w {N : Nat} {p0 : GMatcher} {p1 : List GLabel} {r : Bool} (h : matcher_Holds_g N p0 p1 = some r) : FunS Tryz.prog 42 [.agg [fS p0.Name, fI .i64 p0.Op, fS p0.Value], .t (.slc (rw _ cLabel p1))] (matcher_Holds_s rw) r := by
  refine fun_w lay_ok Tryz.call42 Tryz.func42 rfl ?_
  intro A W E Q R hE hR hf hQ; rcases W with ⟨ar, cm, conj, cv, sl, sc, ct, sa, ss, ll, _, _, _, _, mi, mx, _, _, _⟩
  rw [← hR]
  unfold matcher_Holds_g at h
  skip
  cbv
  refine L_whole hE lay_ok (by kernel_rfl) (by kernel_rfl) ?_; cbv
  refine L_pcall hE hR h (fun _ e => labels_Get_w e) (by subst hR; rfl) rfl fun a1 h => ?_; cbv
  refine L_pcall hE hR h (fun _ e => matcher_Test_w e) rfl rfl fun a2 h => ?_; cbv
  exact And.left (hQ _ _ _ rfl rfl (by cases h; subst hR; rfl))
theorem selector_Holds_w {N : Nat} {p0 : List GMatcher} {p1 : List GLabel} {r : Bool} (h : selector_Holds_g N p0 p1 = some r) : FunS Tryz.prog 18 [.t (.slc (rw _ cMatcher p0)), .t (.slc (rw _ cLabel p1))] (selector_Holds_s rw) r := by
  refine fun_w lay_ok Tryz.call18 Tryz.func18 rfl ?_
  intro A W E Q R hE hR hf hQ; rcases W with ⟨ar, cm, conj, cv, sl, sc, ct, sa, ss, ll, _, _, _, _, mi, mx, _, _, _⟩
  rw [← hR]
  unfold selector_Holds_g at h
  skip
  cbv
  refine L_keep hE lay_ok Tryz.call40 Tryz.func40 rfl ?_
  intro A1 E1 Q1 hE1 hf1 hQ1; cbv
  refine L_keep hE1 lay_ok Tryz.call72 Tryz.func72 rfl ?_
  intro A2 E2 Q2 hE2 hf2 hQ2; cbv
  refine L_for hE2 lay_ok 1 (fun g : Int × Nat => [(4, fI .i64 0), (8, fI .i64 g.1)]) (fun g => []) (fun g => selector_Holds_l3 N p0 p1 g.2 g.1 = some r) (fun g => g.2) (_, N) h ?_ ?_
  · (cbv; (try simp only [e_rnil hR]); repeat' (first | exact trivial | exact rfl | exact Or.inr trivial | apply And.intro))
  rintro ⟨v1, m3⟩ h Q3 hN3 hT3 hX3
  have h : selector_Holds_l3 N p0 p1 m3 v1 = some r := h
  cases m3 with
  | zero => exact nomatch (show (none : Option _) = some _ from h)
  | succ m3 =>
  rw [selector_Holds_l3] at h
  rw [q_ar hE, q_cm hE, q_ll hE, ← hR] at h
  cbv
  refine L_if hE2 h (fun h => ?_) (fun h => ?_) <;> cbv
  · refine L_row hE2 hR h fun r2 h => ?_; cbv
    refine L_keep hE2 lay_ok Tryz.call41 Tryz.func41 rfl ?_
    intro A4 E4 Q4 hE4 hf4 hQ4; cbv
    refine L_call hE4 hR h (fun _ e => matcher_Holds_w e) (by subst hR; rfl) rfl fun a3 h => ?_; cbv
    refine And.left (hQ4 _ _ rfl ?_); cbv
    refine L_if hE2 h (fun h => ?_) (fun h => ?_) <;> cbv
    · refine hT3 _ ?_
      refine And.left (hQ2 _ _ rfl ?_); cbv
      refine And.left (hQ1 _ _ rfl ?_); cbv
      exact And.left (hQ _ _ _ rfl rfl (by cases h; subst hR; rfl))
    refine hN3 _ (_, m3) [] h (Nat.lt_succ_self _) trivial ?_; (cbv; (try simp only [e_rnil hR]); repeat' (first | exact trivial | exact rfl | exact Or.inr trivial | apply And.intro))
  refine hX3 _ _ ?_; cbv
  refine And.left (hQ2 _ _ rfl ?_); cbv
  refine And.left (hQ1 _ _ rfl ?_); cbv
  exact And.left (hQ _ _ _ rfl rfl (by cases h; subst hR; rfl))
end Gn
end Go.Proofs.YtpplemjjeefpdaaGreatDoor
namespace Go.Proofs.YtpplemjjeefpdaaGreatDoor
open Go Go.RowKit
set_option linter.unusedVariables false
set_option linter.unusedSimpArgs false
set_option maxRecDepth 100000
set_option maxHeartbeats 4000000
open Ab Sh
namespace Gn
theorem matcher_Right_w {N : Nat} {p0 : GMatcher} {r : Int} (h : matcher_Right_g N p0 = some r) : FunS Tryz.prog 38 [.agg [fS p0.Name, fI .i64 p0.Op, fS p0.Value]] (matcher_Right_s rw) r := by
  refine fun_w lay_ok Tryz.call38 Tryz.func38 rfl ?_
  intro A W E Q R hE hR hf hQ; rcases W with ⟨ar, cm, conj, cv, sl, sc, ct, sa, ss, ll, _, _, _, _, mi, mx, _, _, _⟩
  unfold matcher_Right_g at h
  rw [q_cm hE, q_sl hE] at h
  cbv
  refine L_keep hE lay_ok Tryz.call70 Tryz.func70 rfl ?_
  intro A1 E1 Q1 hE1 hf1 hQ1; cbv
  refine L_call hE1 hR h (fun _ e => name_Label_w e) rfl rfl fun a1 h => ?_; cbv
  refine L_if hE1 h (fun h => ?_) (fun h => ?_) <;> cbv
  · refine And.left (hQ1 _ _ rfl ?_); cbv
    exact And.left (hQ _ _ _ rfl rfl (by cases h; subst hR; rfl))
  refine L_rgJ hE1 lay_ok h 2 (fun j1 : Bool => [(13, fB j1)]) (fun j1 => []) (fun j1 h => ?_) (fun j1 h => ?_) <;> cbv
  · refine L_if hE1 h (fun h => ?_) (fun h => ?_) <;> cbv
    · cases h; (cbv; (try simp only [e_rnil hR]); repeat' (first | exact trivial | exact rfl | exact Or.inr trivial | apply And.intro))
    cases h; (cbv; (try simp only [e_rnil hR]); repeat' (first | exact trivial | exact rfl | exact Or.inr trivial | apply And.intro))
  refine L_if hE1 h (fun h => ?_) (fun h => ?_) <;> cbv
  · refine And.left (hQ1 _ _ rfl ?_); cbv
    exact And.left (hQ _ _ _ rfl rfl (by cases h; subst hR; rfl))
  refine L_rgJ hE1 lay_ok h 2 (fun j2 : Bool => [(5, fB j2)]) (fun j2 => []) (fun j2 h => ?_) (fun j2 h => ?_) <;> cbv
  · refine L_if hE1 h (fun h => ?_) (fun h => ?_) <;> cbv
    · cases h; (cbv; (try simp only [e_rnil hR]); repeat' (first | exact trivial | exact rfl | exact Or.inr trivial | apply And.intro))
    cases h; (cbv; (try simp only [e_rnil hR]); repeat' (first | exact trivial | exact rfl | exact Or.inr trivial | apply And.intro))
  refine L_rgJ hE1 lay_ok h 2 (fun j3 : Bool => [(37, fB j3)]) (fun j3 => []) (fun j3 h => ?_) (fun j3 h => ?_) <;> cbv
  · refine L_if hE1 h (fun h => ?_) (fun h => ?_) <;> cbv
    · cases h; (cbv; (try simp only [e_rnil hR]); repeat' (first | exact trivial | exact rfl | exact Or.inr trivial | apply And.intro))
    cases h; (cbv; (try simp only [e_rnil hR]); repeat' (first | exact trivial | exact rfl | exact Or.inr trivial | apply And.intro))
  refine L_if hE1 h (fun h => ?_) (fun h => ?_) <;> cbv
  · refine L_if hE1 h (fun h => ?_) (fun h => ?_) <;> cbv
    · refine And.left (hQ1 _ _ rfl ?_); cbv
      exact And.left (hQ _ _ _ rfl rfl (by cases h; subst hR; rfl))
    refine r_ifc hE1 Tryz.underlying126 rfl ?_; cbv
    refine And.left (hQ1 _ _ rfl ?_); cbv
    exact And.left (hQ _ _ _ rfl rfl (by cases h; subst hR; rfl))
  refine L_call hE1 hR h (fun _ e => regex_Parse_w e) rfl rfl fun a2 h => ?_; cbv
  refine L_if hE1 h (fun h => ?_) (fun h => ?_) <;> cbv
  · refine L_whole hE1 lay_ok (by kernel_rfl) (by kernel_rfl) ?_; cbv
    refine And.left (hQ1 _ _ rfl ?_); cbv
    exact And.left (hQ _ _ _ rfl rfl (by cases h; subst hR; rfl))
  refine r_ifc hE1 Tryz.underlying128 rfl ?_; cbv
  refine And.left (hQ1 _ _ rfl ?_); cbv
  exact And.left (hQ _ _ _ rfl rfl (by cases h; subst hR; rfl))
theorem name_Cut_w {N : Nat} {p0 : ByteArray} {p1 : Int} {r : ByteArray × Int} (h : name_Cut_g N p0 p1 = some r) : FunS Tryz.prog 56 [fS p0, fI .i64 p1] (name_Cut_s rw) r := by
  refine fun_w lay_ok Tryz.call56 Tryz.func56 rfl ?_
  intro A W E Q R hE hR hf hQ; rcases W with ⟨ar, cm, conj, cv, sl, sc, ct, sa, ss, ll, _, _, _, _, mi, mx, _, _, _⟩
  unfold name_Cut_g at h
  rw [q_cm hE, q_sl hE] at h
  cbv
  refine L_rgJ hE lay_ok h 0 (fun j1 : Bool => [(16, fB j1)]) (fun j1 => []) (fun j1 h => ?_) (fun j1 h => ?_) <;> cbv
  · refine L_if hE h (fun h => ?_) (fun h => ?_) <;> cbv
    · cases h; (cbv; (try simp only [e_rnil hR]); repeat' (first | exact trivial | exact rfl | exact Or.inr trivial | apply And.intro))
    cases h; (cbv; (try simp only [e_rnil hR]); repeat' (first | exact trivial | exact rfl | exact Or.inr trivial | apply And.intro))
  refine L_if hE h (fun h => ?_) (fun h => ?_) <;> cbv
  · exact And.left (hQ _ _ _ rfl rfl (by cases h; subst hR; rfl))
  refine L_ssin hE h fun h => ?_
  refine L_for hE lay_ok 1 (fun g : Int × Nat => [(4, fS ByteArray.empty), (5, fI .i64 0)]) (fun g => [(0, .iter (ss p0 p1 (sl p0)) g.1)]) (fun g => name_Cut_l1 p0 p1 g.2 g.1 = some r) (fun g => g.2) (_, N) h ?_ ?_
  · (cbv; (try simp only [e_rnil hR]); repeat' (first | exact trivial | exact rfl | exact Or.inr trivial | apply And.intro))
  rintro ⟨v1, m1⟩ h Q1 hN1 hT1 hX1
  have h : name_Cut_l1 p0 p1 m1 v1 = some r := h
  cases m1 with
  | zero => exact nomatch (show (none : Option _) = some _ from h)
  | succ m1 =>
  rw [name_Cut_l1] at h
  rw [q_ar hE, q_cm hE, q_sl hE, q_ss hE] at h
  cbv
  refine L_nx hE h (fun q2 c3 h => ?_) (fun h => ?_) <;> cbv
  · refine L_t hE ?_; cbv
    refine L_rgJ hE lay_ok h 1 (fun j4 : Bool => [(37, fB j4)]) (fun j4 => []) (fun j4 h => ?_) (fun j4 h => ?_) <;> cbv
    · refine L_call hE hR h (fun _ e => name_letter_w e) rfl rfl fun a4 h => ?_; cbv
      refine L_if hE h (fun h => ?_) (fun h => ?_) <;> cbv
      · refine L_if hE h (fun h => ?_) (fun h => ?_) <;> cbv
        · cases h; (cbv; (try simp only [e_rnil hR]); repeat' (first | exact trivial | exact rfl | exact Or.inr trivial | apply And.intro))
        refine L_call hE hR h (fun _ e => name_digit_w e) rfl rfl fun a5 h => ?_; cbv
        cases h; (cbv; (try simp only [e_rnil hR]); repeat' (first | exact trivial | exact rfl | exact Or.inr trivial | apply And.intro))
      cases h; (cbv; (try simp only [e_rnil hR]); repeat' (first | exact trivial | exact rfl | exact Or.inr trivial | apply And.intro))
    refine L_if hE h (fun h => ?_) (fun h => ?_) <;> cbv
    · refine L_ssin hE h fun h => ?_
      refine hT1 _ ?_
      exact And.left (hQ _ _ _ rfl rfl (by cases h; subst hR; rfl))
    refine hN1 _ (_, m1) [] h (Nat.lt_succ_self _) trivial ?_; (cbv; (try simp only [e_rnil hR]); repeat' (first | exact trivial | exact rfl | exact Or.inr trivial | apply And.intro))
  refine L_f hE ?_; cbv
  refine hX1 _ _ ?_; cbv
  exact And.left (hQ _ _ _ rfl rfl (by cases h; subst hR; rfl))
theorem matcher_sign_w {p0 : Int} {r : ByteArray} (h : matcher_sign_g p0 = some r) : FunS Tryz.prog 59 [fI .i64 p0] (matcher_sign_s rw) r := by
  refine fun_w lay_ok Tryz.call59 Tryz.func59 rfl ?_
  intro A W E Q R hE hR hf hQ; rcases W with ⟨ar, cm, conj, cv, sl, sc, ct, sa, ss, ll, _, _, _, _, mi, mx, _, _, _⟩
  unfold matcher_sign_g at h
  rw [q_cm hE] at h
  cbv
  refine L_if hE h (fun h => ?_) (fun h => ?_) <;> cbv
  · exact And.left (hQ _ _ _ rfl rfl (by cases h; subst hR; rfl))
  refine L_if hE h (fun h => ?_) (fun h => ?_) <;> cbv
  · exact And.left (hQ _ _ _ rfl rfl (by cases h; subst hR; rfl))
  refine L_if hE h (fun h => ?_) (fun h => ?_) <;> cbv
  · exact And.left (hQ _ _ _ rfl rfl (by cases h; subst hR; rfl))
  refine L_if hE h (fun h => ?_) (fun h => ?_) <;> cbv
  · exact And.left (hQ _ _ _ rfl rfl (by cases h; subst hR; rfl))
  exact And.left (hQ _ _ _ rfl rfl (by cases h; subst hR; rfl))
theorem matcher_op_w {N : Nat} {p0 : ByteArray} {p1 : Int} {r : Int × GFault} (h : matcher_op_g N p0 p1 = some r) : FunS Tryz.prog 58 [fS p0, fI .i64 p1] (matcher_op_s rw) r := by
  refine fun_w lay_ok Tryz.call58 Tryz.func58 rfl ?_
  intro A W E Q R hE hR hf hQ; rcases W with ⟨ar, cm, conj, cv, sl, sc, ct, sa, ss, ll, _, _, _, _, mi, mx, _, _, _⟩
  unfold matcher_op_g at h
  rw [q_sl hE] at h
  cbv
  refine L_ssin hE h fun h => ?_
  refine L_for hE lay_ok 1 (fun g : Int × Nat => [(4, fI .i64 0), (13, fI .i64 g.1)]) (fun g => []) (fun g => matcher_op_l1 p0 p1 g.2 g.1 = some r) (fun g => g.2) (_, N) h ?_ ?_
  · (cbv; (try simp only [e_rnil hR]); repeat' (first | exact trivial | exact rfl | exact Or.inr trivial | apply And.intro))
  rintro ⟨v1, m1⟩ h Q1 hN1 hT1 hX1
  have h : matcher_op_l1 p0 p1 m1 v1 = some r := h
  cases m1 with
  | zero => exact nomatch (show (none : Option _) = some _ from h)
  | succ m1 =>
  rw [matcher_op_l1] at h
  rw [q_ar hE, q_cm hE, q_sl hE, q_sc hE, q_ss hE] at h
  cbv
  refine L_if hE h (fun h => ?_) (fun h => ?_) <;> cbv
  · refine L_cell hE (m := (fI .i64)) h rfl fun r2 h => ?_; cbv
    refine L_call hE hR h (fun _ e => matcher_sign_w e) rfl rfl fun a3 h => ?_; cbv
    refine L_call hE hR h (fun _ e => strings_HasPrefix_w e) rfl rfl fun a4 h => ?_; cbv
    refine L_if hE h (fun h => ?_) (fun h => ?_) <;> cbv
    · refine hT1 _ ?_
      exact And.left (hQ _ _ _ rfl rfl (by cases h; subst hR; rfl))
    refine hN1 _ (_, m1) [] h (Nat.lt_succ_self _) trivial ?_; (cbv; (try simp only [e_rnil hR]); repeat' (first | exact trivial | exact rfl | exact Or.inr trivial | apply And.intro))
  refine hX1 _ _ ?_; cbv
  refine L_if hE h (fun h => ?_) (fun h => ?_) <;> cbv
  · exact And.left (hQ _ _ _ rfl rfl (by cases h; subst hR; rfl))
  refine L_if hE h (fun h => ?_) (fun h => ?_) <;> cbv
  · exact And.left (hQ _ _ _ rfl rfl (by cases h; subst hR; rfl))
  exact And.left (hQ _ _ _ rfl rfl (by cases h; subst hR; rfl))
theorem quote_escape_w {N : Nat} {p0 : ByteArray} {r : Int × Int × Int} (h : quote_escape_g N p0 = some r) : FunS Tryz.prog 90 [fS p0] (quote_escape_s rw) r := by
  refine fun_w lay_ok Tryz.call90 Tryz.func90 rfl ?_
  intro A W E Q R hE hR hf hQ; rcases W with ⟨ar, cm, conj, cv, sl, sc, ct, sa, ss, ll, _, _, _, _, mi, mx, _, _, _⟩
  unfold quote_escape_g at h
  rw [q_cm hE, q_sl hE, q_sa hE] at h
  cbv
  refine L_if hE h (fun h => ?_) (fun h => ?_) <;> cbv
  · exact And.left (hQ _ _ _ rfl rfl (by cases h; subst hR; rfl))
  refine L_rgJ hE lay_ok h 0 (fun j1 : Bool => [(12, fB j1)]) (fun j1 => []) (fun j1 h => ?_) (fun j1 h => ?_) <;> cbv
  · refine L_sin hE h fun h => ?_
    refine L_if hE h (fun h => ?_) (fun h => ?_) <;> cbv
    · cases h; (cbv; (try simp only [e_rnil hR]); repeat' (first | exact trivial | exact rfl | exact Or.inr trivial | apply And.intro))
    refine L_sin hE h fun h => ?_
    cases h; (cbv; (try simp only [e_rnil hR]); repeat' (first | exact trivial | exact rfl | exact Or.inr trivial | apply And.intro))
  refine L_if hE h (fun h => ?_) (fun h => ?_) <;> cbv
  · refine L_sin hE h fun h => ?_
    exact And.left (hQ _ _ _ rfl rfl (by cases h; subst hR; rfl))
  refine L_sin hE h fun h => ?_
  refine L_if hE h (fun h => ?_) (fun h => ?_) <;> cbv
  · exact And.left (hQ _ _ _ rfl rfl (by cases h; subst hR; rfl))
  refine L_for hE lay_ok 0 (fun g : Int × Int × Nat => [(2, fI .u8 0), (3, fI .i64 0), (4, fI .i64 0), (5, fI .i64 g.1), (6, fI .i64 g.2.1)]) (fun g => []) (fun g => quote_escape_l1 p0 g.2.2 g.1 g.2.1 = some r) (fun g => g.2.2) (_, _, N) h ?_ ?_
  · (cbv; (try simp only [e_rnil hR]); repeat' (first | exact trivial | exact rfl | exact Or.inr trivial | apply And.intro))
  rintro ⟨v1, v2, m1⟩ h Q1 hN1 hT1 hX1
  have h : quote_escape_l1 p0 m1 v1 v2 = some r := h
  cases m1 with
  | zero => exact nomatch (show (none : Option _) = some _ from h)
  | succ m1 =>
  rw [quote_escape_l1] at h
  rw [q_ar hE, q_cm hE, q_cv hE, q_sl hE, q_sa hE] at h
  cbv
  refine L_if hE h (fun h => ?_) (fun h => ?_) <;> cbv
  · refine L_if hE h (fun h => ?_) (fun h => ?_) <;> cbv
    · refine hT1 _ ?_
      exact And.left (hQ _ _ _ rfl rfl (by cases h; subst hR; rfl))
    refine L_sin hE h fun h => ?_
    refine L_call hE hR h (fun _ e => strings_IndexByte_w e) rfl rfl fun a3 h => ?_; cbv
    refine L_if hE h (fun h => ?_) (fun h => ?_) <;> cbv
    · refine hT1 _ ?_
      exact And.left (hQ _ _ _ rfl rfl (by cases h; subst hR; rfl))
    refine hN1 _ (_, _, m1) [] h (Nat.lt_succ_self _) trivial ?_; (cbv; (try simp only [e_rnil hR]); repeat' (first | exact trivial | exact rfl | exact Or.inr trivial | apply And.intro))
  refine hX1 _ _ ?_; cbv
  exact And.left (hQ _ _ _ rfl rfl (by cases h; subst hR; rfl))
end Gn
end Go.Proofs.YtpplemjjeefpdaaGreatDoor
