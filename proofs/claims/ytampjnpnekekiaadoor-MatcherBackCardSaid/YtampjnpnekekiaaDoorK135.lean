/- A plain machine: a list of one's own is closed ahead of a drawn region: nobody writes it from now on. -/
import Derived.Test.YtampjnpnekekiaaDoorK116
import Derived.Test.YtampjnpnekekiaaDoorK134
namespace Go.Proofs.YtampjnpnekekiaaDoor
open Go Go.RowKit
set_option linter.unusedVariables false
set_option linter.unusedSimpArgs false
namespace Ab
def St.close (s : St) (id k : Nat) (v : V) : St := ⟨(killL id s.tmps).set k v, (s.drop id).heap, s.base⟩
theorem Rel.close {A : Run} {cx : Cx} {s : St} {a : Act} {w : World} {id ty es k : Nat} {rows : Rows} {v v' : V} (R : Rel A cx s a w) (hr : s.heap[id]? = some (some (.list ty es rows))) (ho : onlyB id 0 s.heap = true) (hfree : A.pin id = none)
    (hk : s.tmps[k]? = some v) (hz : V.frz s.heap v = some v') :
    Rel A ⟨fun i => if i = id then none else cx.at_ i, fun b => cx.G b ∨ ∃ cap es len, cx.at_ id = some (.at b cap es len)⟩ (s.close id k v') a w := by
  have R1 := R.drop hr hfree
  have hg : ∀ b, (cx.G b ∨ listBlk cx s.heap b) → (cx.G b ∨ ∃ cap es len, cx.at_ id = some (.at b cap es len)) := fun b h => by
    rcases h with h | ⟨id', ty', es', rows', cap, es2, len, g1, g2⟩
    · exact .inl h
    · have := onlyB_at ho _ _ _ _ g1
      rw [Nat.zero_add] at this
      subst this
      exact .inr ⟨cap, es2, len, g2⟩
  refine ⟨⟨?_, fun i c u h1 h2 => ?_⟩, R1.df, R1.hp, R1.kp, R1.bs⟩
  · have := R1.tm.1
    simp only [St.drop] at this
    simp only [St.close, List.length_set]
    exact this
  · simp only [St.close] at h1
    by_cases e : k = i
    · subst e
      have hlt : k < (killL id s.tmps).length := by
        have := (List.getElem?_eq_some_iff.1 hk).1
        rw [killL_map, List.length_map]; exact this
      rw [List.getElem?_set_self hlt] at h1
      cases h1
      exact (frz_rep R.hp (R.tm.2 k v u hk h2) hz).mono (Same.refl _ _) (none_le ⟨fun i => if i = id then none else cx.at_ i, fun b => cx.G b ∨ ∃ cap es len, cx.at_ id = some (.at b cap es len)⟩ _ hg)
    · rw [List.getElem?_set_ne e] at h1
      exact R1.tm.2 i c u h1 h2
end Ab
open Ab
namespace Sh
theorem L_close {P : Program} {A : Run} {W : Wd} {E : Env} (hE : dom P A = mkE W E) {all : List Oper} {s : St} {K : St → Prop} (id k : Nat) {ty es : Nat} {rows : Ab.Rows} {v v' : V} (hr : s.heap[id]? = some (some (.list ty es rows))) (ho : onlyB id 0 s.heap = true) (hfree : E.free id)
    (hk : s.tmps[k]? = some v) (hz : V.frz s.heap v = some v') (h : E.draw all (s.close id k v') K) : E.draw all s K := by
  have hf : (mkE W E).free id := hfree
  have h' : (mkE W E).draw all (s.close id k v') K := h
  show (mkE W E).draw all s K
  rw [← hE] at hf h' ⊢
  intro id' cx a w R
  exact h' id' _ a w (R.close hr ho hf hk hz)
end Sh
end Go.Proofs.YtampjnpnekekiaaDoor
namespace Go.Proofs.YtampjnpnekekiaaDoor
open Go Go.RowKit
set_option linter.unusedVariables false
set_option linter.unusedSimpArgs false
set_option maxRecDepth 100000
set_option maxHeartbeats 4000000
open Ab Sh
namespace Gn
theorem name_letter_w {p0 : Int} {r : Bool} (h : name_letter_g p0 = some r) : FunS Tryd.prog 25 [fI .i32 p0] (name_letter_s rw) r := by
  refine fun_w lay_ok Tryd.call25 Tryd.func25 rfl ?_
  intro A W E Q R hE hR hf hQ; rcases W with ⟨ar, cm, conj, cv, sl, sc, ct, sa, ss, ll, _, _, _, _, mi, mx, _, _, _⟩
  unfold name_letter_g at h
  rw [q_cm hE] at h
  cbv
  refine L_rgJ hE lay_ok h 0 (fun j1 : Bool => [(2, fB j1)]) (fun j1 => []) (fun j1 h => ?_) (fun j1 h => ?_) <;> cbv
  · refine L_if hE h (fun h => ?_) (fun h => ?_) <;> cbv
    · cases h; (cbv; (try simp only [e_rnil hR]); repeat' (first | exact trivial | exact rfl | exact Or.inr trivial | apply And.intro))
    refine L_if hE h (fun h => ?_) (fun h => ?_) <;> cbv
    · refine L_if hE h (fun h => ?_) (fun h => ?_) <;> cbv
      · cases h; (cbv; (try simp only [e_rnil hR]); repeat' (first | exact trivial | exact rfl | exact Or.inr trivial | apply And.intro))
      refine L_if hE h (fun h => ?_) (fun h => ?_) <;> cbv
      · cases h; (cbv; (try simp only [e_rnil hR]); repeat' (first | exact trivial | exact rfl | exact Or.inr trivial | apply And.intro))
      cases h; (cbv; (try simp only [e_rnil hR]); repeat' (first | exact trivial | exact rfl | exact Or.inr trivial | apply And.intro))
    refine L_if hE h (fun h => ?_) (fun h => ?_) <;> cbv
    · cases h; (cbv; (try simp only [e_rnil hR]); repeat' (first | exact trivial | exact rfl | exact Or.inr trivial | apply And.intro))
    cases h; (cbv; (try simp only [e_rnil hR]); repeat' (first | exact trivial | exact rfl | exact Or.inr trivial | apply And.intro))
  exact And.left (hQ _ _ _ rfl rfl (by cases h; subst hR; rfl))
theorem name_digit_w {p0 : Int} {r : Bool} (h : name_digit_g p0 = some r) : FunS Tryd.prog 26 [fI .i32 p0] (name_digit_s rw) r := by
  refine fun_w lay_ok Tryd.call26 Tryd.func26 rfl ?_
  intro A W E Q R hE hR hf hQ; rcases W with ⟨ar, cm, conj, cv, sl, sc, ct, sa, ss, ll, _, _, _, _, mi, mx, _, _, _⟩
  unfold name_digit_g at h
  rw [q_cm hE] at h
  cbv
  refine L_rgJ hE lay_ok h 0 (fun j1 : Bool => [(2, fB j1)]) (fun j1 => []) (fun j1 h => ?_) (fun j1 h => ?_) <;> cbv
  · refine L_if hE h (fun h => ?_) (fun h => ?_) <;> cbv
    · cases h; (cbv; (try simp only [e_rnil hR]); repeat' (first | exact trivial | exact rfl | exact Or.inr trivial | apply And.intro))
    cases h; (cbv; (try simp only [e_rnil hR]); repeat' (first | exact trivial | exact rfl | exact Or.inr trivial | apply And.intro))
  exact And.left (hQ _ _ _ rfl rfl (by cases h; subst hR; rfl))
theorem name_Label_w {N : Nat} {p0 : ByteArray} {r : Bool} (h : name_Label_g N p0 = some r) : FunS Tryd.prog 14 [fS p0] (name_Label_s rw) r := by
  refine fun_w lay_ok Tryd.call14 Tryd.func14 rfl ?_
  intro A W E Q R hE hR hf hQ; rcases W with ⟨ar, cm, conj, cv, sl, sc, ct, sa, ss, ll, _, _, _, _, mi, mx, _, _, _⟩
  unfold name_Label_g at h
  rw [q_cm hE, q_sl hE, q_sc hE] at h
  cbv
  refine L_rgJ hE lay_ok h 0 (fun j1 : Bool => [(11, fB j1)]) (fun j1 => []) (fun j1 h => ?_) (fun j1 h => ?_) <;> cbv
  · refine L_if hE h (fun h => ?_) (fun h => ?_) <;> cbv
    · cases h; (cbv; (try simp only [e_rnil hR]); repeat' (first | exact trivial | exact rfl | exact Or.inr trivial | apply And.intro))
    cases h; (cbv; (try simp only [e_rnil hR]); repeat' (first | exact trivial | exact rfl | exact Or.inr trivial | apply And.intro))
  refine L_if hE h (fun h => ?_) (fun h => ?_) <;> cbv
  · exact And.left (hQ _ _ _ rfl rfl (by cases h; subst hR; rfl))
  refine L_for hE lay_ok 1 (fun g : Int × Nat => [(2, fB false)]) (fun g => [(0, .iter p0 g.1)]) (fun g => name_Label_l1 p0 g.2 g.1 = some r) (fun g => g.2) (_, N) h ?_ ?_
  · (cbv; (try simp only [e_rnil hR]); repeat' (first | exact trivial | exact rfl | exact Or.inr trivial | apply And.intro))
  rintro ⟨v1, m1⟩ h Q1 hN1 hT1 hX1
  have h : name_Label_l1 p0 m1 v1 = some r := h
  cases m1 with
  | zero => exact nomatch (show (none : Option _) = some _ from h)
  | succ m1 =>
  rw [name_Label_l1] at h
  rw [q_cm hE] at h
  cbv
  refine L_nx hE h (fun q2 c3 h => ?_) (fun h => ?_) <;> cbv
  · refine L_t hE ?_; cbv
    refine L_rgJ hE lay_ok h 1 (fun j4 : Bool => [(29, fB j4)]) (fun j4 => []) (fun j4 h => ?_) (fun j4 h => ?_) <;> cbv
    · refine L_call hE hR h (fun _ e => name_letter_w e) rfl rfl fun a4 h => ?_; cbv
      refine L_if hE h (fun h => ?_) (fun h => ?_) <;> cbv
      · refine L_if hE h (fun h => ?_) (fun h => ?_) <;> cbv
        · cases h; (cbv; (try simp only [e_rnil hR]); repeat' (first | exact trivial | exact rfl | exact Or.inr trivial | apply And.intro))
        refine L_call hE hR h (fun _ e => name_digit_w e) rfl rfl fun a5 h => ?_; cbv
        cases h; (cbv; (try simp only [e_rnil hR]); repeat' (first | exact trivial | exact rfl | exact Or.inr trivial | apply And.intro))
      cases h; (cbv; (try simp only [e_rnil hR]); repeat' (first | exact trivial | exact rfl | exact Or.inr trivial | apply And.intro))
    refine L_if hE h (fun h => ?_) (fun h => ?_) <;> cbv
    · refine hT1 _ ?_
      exact And.left (hQ _ _ _ rfl rfl (by cases h; subst hR; rfl))
    refine hN1 _ (_, m1) [] h (Nat.lt_succ_self _) trivial ?_; (cbv; (try simp only [e_rnil hR]); repeat' (first | exact trivial | exact rfl | exact Or.inr trivial | apply And.intro))
  refine L_f hE ?_; cbv
  refine hX1 _ _ ?_; cbv
  exact And.left (hQ _ _ _ rfl rfl (by cases h; subst hR; rfl))
theorem matcher_Right_w {N : Nat} {p0 : GMatcher} {r : Int} (h : matcher_Right_g N p0 = some r) : FunS Tryd.prog 4 [.agg [fS p0.Name, fI .i64 p0.Op, fS p0.Value]] (matcher_Right_s rw) r := by
  refine fun_w lay_ok Tryd.call4 Tryd.func4 rfl ?_
  intro A W E Q R hE hR hf hQ; rcases W with ⟨ar, cm, conj, cv, sl, sc, ct, sa, ss, ll, _, _, _, _, mi, mx, _, _, _⟩
  unfold matcher_Right_g at h
  rw [q_cm hE, q_sl hE] at h
  cbv
  refine L_keep hE lay_ok Tryd.call10 Tryd.func10 rfl ?_
  intro A1 E1 Q1 hE1 hf1 hQ1; cbv
  refine L_call hE1 hR h (fun _ e => name_Label_w e) rfl rfl fun a1 h => ?_; cbv
  refine L_if hE1 h (fun h => ?_) (fun h => ?_) <;> cbv
  · refine And.left (hQ1 _ _ rfl ?_); cbv
    exact And.left (hQ _ _ _ rfl rfl (by cases h; subst hR; rfl))
  refine L_rgJ hE1 lay_ok h 2 (fun j1 : Bool => [(13, fB j1)]) (fun j1 => []) (fun j1 h => ?_) (fun j1 h => ?_) <;> cbv
  · refine L_if hE1 h (fun h => ?_) (fun h => ?_) <;> cbv
    · cases h; (cbv; (try simp only [e_rnil hR]); repeat' (first | exact trivial | exact rfl | exact Or.inr trivial | apply And.intro))
    cases h; (cbv; (try simp only [e_rnil hR]); repeat' (first | exact trivial | exact rfl | exact Or.inr trivial | apply And.intro))
  refine L_if hE1 h (fun h => ?_) (fun h => ?_) <;> cbv
  · refine And.left (hQ1 _ _ rfl ?_); cbv
    exact And.left (hQ _ _ _ rfl rfl (by cases h; subst hR; rfl))
  refine L_rgJ hE1 lay_ok h 2 (fun j2 : Bool => [(5, fB j2)]) (fun j2 => []) (fun j2 h => ?_) (fun j2 h => ?_) <;> cbv
  · refine L_if hE1 h (fun h => ?_) (fun h => ?_) <;> cbv
    · cases h; (cbv; (try simp only [e_rnil hR]); repeat' (first | exact trivial | exact rfl | exact Or.inr trivial | apply And.intro))
    cases h; (cbv; (try simp only [e_rnil hR]); repeat' (first | exact trivial | exact rfl | exact Or.inr trivial | apply And.intro))
  refine L_rgJ hE1 lay_ok h 2 (fun j3 : Bool => [(37, fB j3)]) (fun j3 => []) (fun j3 h => ?_) (fun j3 h => ?_) <;> cbv
  · refine L_if hE1 h (fun h => ?_) (fun h => ?_) <;> cbv
    · cases h; (cbv; (try simp only [e_rnil hR]); repeat' (first | exact trivial | exact rfl | exact Or.inr trivial | apply And.intro))
    cases h; (cbv; (try simp only [e_rnil hR]); repeat' (first | exact trivial | exact rfl | exact Or.inr trivial | apply And.intro))
  refine L_if hE1 h (fun h => ?_) (fun h => ?_) <;> cbv
  · refine L_if hE1 h (fun h => ?_) (fun h => ?_) <;> cbv
    · refine And.left (hQ1 _ _ rfl ?_); cbv
      exact And.left (hQ _ _ _ rfl rfl (by cases h; subst hR; rfl))
    refine r_ifc hE1 Tryd.underlying53 rfl ?_; cbv
    refine And.left (hQ1 _ _ rfl ?_); cbv
    exact And.left (hQ _ _ _ rfl rfl (by cases h; subst hR; rfl))
  refine L_call hE1 hR h (fun _ e => regex_Parse_w e) rfl rfl fun a2 h => ?_; cbv
  refine L_if hE1 h (fun h => ?_) (fun h => ?_) <;> cbv
  · refine L_whole hE1 lay_ok (by kernel_rfl) (by kernel_rfl) ?_; cbv
    refine And.left (hQ1 _ _ rfl ?_); cbv
    exact And.left (hQ _ _ _ rfl rfl (by cases h; subst hR; rfl))
  refine r_ifc hE1 Tryd.underlying63 rfl ?_; cbv
  refine And.left (hQ1 _ _ rfl ?_); cbv
  exact And.left (hQ _ _ _ rfl rfl (by cases h; subst hR; rfl))
theorem matcher_sign_w {p0 : Int} {r : ByteArray} (h : matcher_sign_g p0 = some r) : FunS Tryd.prog 11 [fI .i64 p0] (matcher_sign_s rw) r := by
  refine fun_w lay_ok Tryd.call11 Tryd.func11 rfl ?_
  intro A W E Q R hE hR hf hQ; rcases W with ⟨ar, cm, conj, cv, sl, sc, ct, sa, ss, ll, _, _, _, _, mi, mx, _, _, _⟩
  unfold matcher_sign_g at h
  rw [q_cm hE] at h
  cbv
  refine L_if hE h (fun h => ?_) (fun h => ?_) <;> cbv
  · exact And.left (hQ _ _ _ rfl rfl (by cases h; subst hR; rfl))
  refine L_if hE h (fun h => ?_) (fun h => ?_) <;> cbv
  · exact And.left (hQ _ _ _ rfl rfl (by cases h; subst hR; rfl))
  refine L_if hE h (fun h => ?_) (fun h => ?_) <;> cbv
  · exact And.left (hQ _ _ _ rfl rfl (by cases h; subst hR; rfl))
  refine L_if hE h (fun h => ?_) (fun h => ?_) <;> cbv
  · exact And.left (hQ _ _ _ rfl rfl (by cases h; subst hR; rfl))
  exact And.left (hQ _ _ _ rfl rfl (by cases h; subst hR; rfl))
end Gn
end Go.Proofs.YtampjnpnekekiaaDoor
namespace Go.Proofs.YtampjnpnekekiaaDoor
open Go Go.RowKit
set_option linter.unusedVariables false
set_option linter.unusedSimpArgs false
set_option maxRecDepth 100000
set_option maxHeartbeats 4000000
open Ab Sh
namespace Gn
theorem quote_Unit_w {p0 : ByteArray} {p1 : Int} {r : Int} (h : quote_Unit_g p0 p1 = some r) : FunS Tryd.prog 20 [fS p0, fI .i64 p1] (quote_Unit_s rw) r := by
  refine fun_w lay_ok Tryd.call20 Tryd.func20 rfl ?_
  intro A W E Q R hE hR hf hQ; rcases W with ⟨ar, cm, conj, cv, sl, sc, ct, sa, ss, ll, _, _, _, _, mi, mx, _, _, _⟩
  unfold quote_Unit_g at h
  rw [q_cm hE, q_sl hE, q_ss hE] at h
  cbv
  refine L_rgJ hE lay_ok h 0 (fun j1 : Bool => [(14, fB j1)]) (fun j1 => []) (fun j1 h => ?_) (fun j1 h => ?_) <;> cbv
  · refine L_if hE h (fun h => ?_) (fun h => ?_) <;> cbv
    · cases h; (cbv; (try simp only [e_rnil hR]); repeat' (first | exact trivial | exact rfl | exact Or.inr trivial | apply And.intro))
    cases h; (cbv; (try simp only [e_rnil hR]); repeat' (first | exact trivial | exact rfl | exact Or.inr trivial | apply And.intro))
  refine L_if hE h (fun h => ?_) (fun h => ?_) <;> cbv
  · exact And.left (hQ _ _ _ rfl rfl (by cases h; subst hR; rfl))
  refine L_ssin hE h fun h => ?_
  refine L_call hE hR h (fun _ e => utf8_Decode_w e) rfl rfl fun a1 h => ?_; cbv
  exact And.left (hQ _ _ _ rfl rfl (by cases h; subst hR; rfl))
theorem quote_plain_w {p0 : Int} {p1 : Int} {r : Bool} (h : quote_plain_g p0 p1 = some r) : FunS Tryd.prog 22 [fI .i32 p0, fI .i64 p1] (quote_plain_s rw) r := by
  refine fun_w lay_ok Tryd.call22 Tryd.func22 rfl ?_
  intro A W E Q R hE hR hf hQ; rcases W with ⟨ar, cm, conj, cv, sl, sc, ct, sa, ss, ll, _, _, _, _, mi, mx, _, _, _⟩
  unfold quote_plain_g at h
  rw [q_cm hE] at h
  cbv
  refine L_rgJ hE lay_ok h 0 (fun j1 : Bool => [(4, fB j1)]) (fun j1 => []) (fun j1 h => ?_) (fun j1 h => ?_) <;> cbv
  · refine L_if hE h (fun h => ?_) (fun h => ?_) <;> cbv
    · refine L_if hE h (fun h => ?_) (fun h => ?_) <;> cbv
      · refine L_if hE h (fun h => ?_) (fun h => ?_) <;> cbv
        · cases h; (cbv; (try simp only [e_rnil hR]); repeat' (first | exact trivial | exact rfl | exact Or.inr trivial | apply And.intro))
        cases h; (cbv; (try simp only [e_rnil hR]); repeat' (first | exact trivial | exact rfl | exact Or.inr trivial | apply And.intro))
      cases h; (cbv; (try simp only [e_rnil hR]); repeat' (first | exact trivial | exact rfl | exact Or.inr trivial | apply And.intro))
    cases h; (cbv; (try simp only [e_rnil hR]); repeat' (first | exact trivial | exact rfl | exact Or.inr trivial | apply And.intro))
  exact And.left (hQ _ _ _ rfl rfl (by cases h; subst hR; rfl))
theorem quote_Text_w {N : Nat} {p0 : ByteArray} {r : ByteArray} (h : quote_Text_g N p0 = some r) : FunS Tryd.prog 12 [fS p0] (quote_Text_s rw) r := by
  refine fun_w lay_ok Tryd.call12 Tryd.func12 rfl ?_
  intro A W E Q R hE hR hf hQ; rcases W with ⟨ar, cm, conj, cv, sl, sc, ct, sa, ss, ll, _, _, _, _, mi, mx, _, _, _⟩
  unfold quote_Text_g at h
  skip
  cbv
  refine L_body hE lay_ok Tryd.call19 Tryd.func19 rfl ?_
  intro A1 E1 Q1 hE1 hf1 hQ1; cbv
  refine L_check hE1 rfl (.inl rfl) ?_; cbv
  refine L_nilL hE1 hR h rfl (fun _ => rfl) (by decide) fun l1 e h => ?_; (first | rw [e] | (cbv at e; rw [e])); clear e
  refine And.left (hQ1 _ _ rfl ?_); cbv
  refine L_for hE lay_ok 4 (fun g : (List Int) × Int × Nat => []) (fun g => [(2, .list 5 1 (R _ (cI .u8) g.1)), (3, .iter p0 g.2.1)]) (fun g => quote_Text_l2 p0 g.2.2 g.1 g.2.1 = some r) (fun g => g.2.2) (_, _, N) h ?_ ?_
  · (cbv; (try simp only [e_rnil hR]); repeat' (first | exact trivial | exact rfl | exact Or.inr trivial | apply And.intro))
  rintro ⟨v2, v3, m2⟩ h Q2 hN2 hT2 hX2
  have h : quote_Text_l2 p0 m2 v2 v3 = some r := h
  cases m2 with
  | zero => exact nomatch (show (none : Option _) = some _ from h)
  | succ m2 =>
  rw [quote_Text_l2] at h
  rw [q_ar hE, q_cm hE, q_cv hE, q_sa hE, q_ss hE] at h
  cbv
  refine L_nx hE h (fun q4 c5 h => ?_) (fun h => ?_) <;> cbv
  · refine L_t hE ?_; cbv
    refine L_call hE hR h (fun _ e => quote_Unit_w e) rfl rfl fun a6 h => ?_; cbv
    refine L_rgJ hE lay_ok h 4 (fun j4 : Bool => [(30, fB j4)]) (fun j4 => []) (fun j4 h => ?_) (fun j4 h => ?_) <;> cbv
    · refine L_if hE h (fun h => ?_) (fun h => ?_) <;> cbv
      · cases h; (cbv; (try simp only [e_rnil hR]); repeat' (first | exact trivial | exact rfl | exact Or.inr trivial | apply And.intro))
      cases h; (cbv; (try simp only [e_rnil hR]); repeat' (first | exact trivial | exact rfl | exact Or.inr trivial | apply And.intro))
    refine L_cdJ hE lay_ok h 4 (fun j6 : (List Int) => []) (fun j6 => [(2, .list 5 1 (R _ (cI .u8) j6))]) (fun j6 h => ?_) (fun j6 h => ?_) <;> cbv
    · refine L_if hE h (fun h => ?_) (fun h => ?_) <;> cbv
      · refine L_body hE lay_ok Tryd.call19 Tryd.func19 rfl ?_
        intro A3 E3 Q3 hE3 hf3 hQ3; cbv
        refine L_check hE3 rfl (.inr rfl) ?_; cbv
        refine L_appL hE3 hR h rfl (hf3 _ (.inr ⟨hf _, _, _, _, rfl⟩)) (fun _ => rfl) (by decide) fun l7 e h => ?_; cbv at e; rw [e]; clear e
        refine And.left (hQ3 _ _ rfl ?_); cbv
        refine L_body hE lay_ok Tryd.call21 Tryd.func21 rfl ?_
        intro A4 E4 Q4 hE4 hf4 hQ4; cbv
        refine L_check hE4 rfl (.inr rfl) ?_; cbv
        refine L_body hE4 lay_ok Tryd.call36 Tryd.func36 rfl ?_
        intro A5 E5 Q5 hE5 hf5 hQ5; cbv
        refine L_if hE5 h (fun h => ?_) (fun h => ?_) <;> cbv
        · refine L_appL hE5 hR h rfl (hf5 _ (.inr ⟨hf4 _ (.inr ⟨hf _, _, _, _, rfl⟩), _, _, _, rfl⟩)) (fun _ => rfl) (by decide) fun l8 e h => ?_; cbv at e; rw [e]; clear e
          refine And.left (hQ5 _ _ rfl ?_); cbv
          refine And.left (hQ4 _ _ rfl ?_); cbv
          cases h; (cbv; (try simp only [e_rnil hR]); repeat' (first | exact trivial | exact rfl | exact Or.inr trivial | apply And.intro))
        exact nomatch h
      refine L_call hE hR h (fun _ e => quote_plain_w e) rfl rfl fun a9 h => ?_; cbv
      refine L_cdJ hE lay_ok h 4 (fun j5 : (List Int) => []) (fun j5 => [(2, .list 5 1 (R _ (cI .u8) j5))]) (fun j5 h => ?_) (fun j5 h => ?_) <;> cbv
      · refine L_if hE h (fun h => ?_) (fun h => ?_) <;> cbv
        · refine L_ssin hE h fun h => ?_
          refine L_body hE lay_ok Tryd.call23 Tryd.func23 rfl ?_
          intro A6 E6 Q6 hE6 hf6 hQ6; cbv
          refine L_check hE6 rfl (.inr rfl) ?_; cbv
          refine L_appS hE6 hR h (hf6 _ (.inr ⟨hf _, _, _, _, rfl⟩)) (by decide) fun l10 e h => ?_; cbv at e; rw [e]; clear e
          refine And.left (hQ6 _ _ rfl ?_); cbv
          cases h; (cbv; (try simp only [e_rnil hR]); repeat' (first | exact trivial | exact rfl | exact Or.inr trivial | apply And.intro))
        refine L_body hE lay_ok Tryd.call23 Tryd.func23 rfl ?_
        intro A7 E7 Q7 hE7 hf7 hQ7; cbv
        refine L_check hE7 rfl (.inr rfl) ?_; cbv
        refine L_appS hE7 hR h (hf7 _ (.inr ⟨hf _, _, _, _, rfl⟩)) (by decide) fun l11 e h => ?_; cbv at e; rw [e]; clear e
        refine And.left (hQ7 _ _ rfl ?_); cbv
        refine L_sin hE h fun h => ?_
        refine L_ge0 hE h fun h => ?_
        refine L_sin hE h fun h => ?_
        refine L_body hE lay_ok Tryd.call19 Tryd.func19 rfl ?_
        intro A8 E8 Q8 hE8 hf8 hQ8; cbv
        refine L_check hE8 rfl (.inr rfl) ?_; cbv
        refine L_appL hE8 hR h rfl (hf8 _ (.inr ⟨hf _, _, _, _, rfl⟩)) (fun _ => rfl) (by decide) fun l12 e h => ?_; cbv at e; rw [e]; clear e
        refine And.left (hQ8 _ _ rfl ?_); cbv
        refine L_sin hE h fun h => ?_
        refine L_sin hE h fun h => ?_
        refine L_body hE lay_ok Tryd.call19 Tryd.func19 rfl ?_
        intro A9 E9 Q9 hE9 hf9 hQ9; cbv
        refine L_check hE9 rfl (.inr rfl) ?_; cbv
        refine L_appL hE9 hR h rfl (hf9 _ (.inr ⟨hf _, _, _, _, rfl⟩)) (fun _ => rfl) (by decide) fun l13 e h => ?_; cbv at e; rw [e]; clear e
        refine And.left (hQ9 _ _ rfl ?_); cbv
        cases h; (cbv; (try simp only [e_rnil hR]); repeat' (first | exact trivial | exact rfl | exact Or.inr trivial | apply And.intro))
      cases h; (cbv; (try simp only [e_rnil hR]); repeat' (first | exact trivial | exact rfl | exact Or.inr trivial | apply And.intro))
    refine hN2 _ (_, _, m2) [] h (Nat.lt_succ_self _) trivial ?_; (cbv; (try simp only [e_rnil hR]); repeat' (first | exact trivial | exact rfl | exact Or.inr trivial | apply And.intro))
  refine L_f hE ?_; cbv
  refine hX2 _ _ ?_; cbv
  refine L_body hE lay_ok Tryd.call19 Tryd.func19 rfl ?_
  intro A10 E10 Q10 hE10 hf10 hQ10; cbv
  refine L_check hE10 rfl (.inr rfl) ?_; cbv
  refine L_appL hE10 hR h rfl (hf10 _ (.inr ⟨hf _, _, _, _, rfl⟩)) (fun _ => rfl) (by decide) fun l14 e h => ?_; cbv at e; rw [e]; clear e
  refine And.left (hQ10 _ _ rfl ?_); cbv
  refine L_str hE hR h rfl rfl (hf _) fun s15 h => ?_; cbv
  exact And.left (hQ _ _ _ rfl rfl (by cases h; subst hR; rfl))
theorem matcher_Text_w {N : Nat} {p0 : GMatcher} {r : ByteArray} (h : matcher_Text_g N p0 = some r) : FunS Tryd.prog 6 [.agg [fS p0.Name, fI .i64 p0.Op, fS p0.Value]] (matcher_Text_s rw) r := by
  refine fun_w lay_ok Tryd.call6 Tryd.func6 rfl ?_
  intro A W E Q R hE hR hf hQ; rcases W with ⟨ar, cm, conj, cv, sl, sc, ct, sa, ss, ll, _, _, _, _, mi, mx, _, _, _⟩
  unfold matcher_Text_g at h
  rw [q_ct hE] at h
  cbv
  refine L_whole hE lay_ok (by kernel_rfl) (by kernel_rfl) ?_; cbv
  refine L_pcall hE hR h (fun _ e => matcher_sign_w e) rfl rfl fun a1 h => ?_; cbv
  refine L_ct hE h fun h => ?_
  refine L_pcall hE hR h (fun _ e => quote_Text_w e) rfl rfl fun a2 h => ?_; cbv
  refine L_ct hE h fun h => ?_
  exact And.left (hQ _ _ _ rfl rfl (by cases h; subst hR; rfl))
theorem name_Cut_w {N : Nat} {p0 : ByteArray} {p1 : Int} {r : ByteArray × Int} (h : name_Cut_g N p0 p1 = some r) : FunS Tryd.prog 13 [fS p0, fI .i64 p1] (name_Cut_s rw) r := by
  refine fun_w lay_ok Tryd.call13 Tryd.func13 rfl ?_
  intro A W E Q R hE hR hf hQ; rcases W with ⟨ar, cm, conj, cv, sl, sc, ct, sa, ss, ll, _, _, _, _, mi, mx, _, _, _⟩
  unfold name_Cut_g at h
  rw [q_cm hE, q_sl hE] at h
  cbv
  refine L_rgJ hE lay_ok h 0 (fun j1 : Bool => [(16, fB j1)]) (fun j1 => []) (fun j1 h => ?_) (fun j1 h => ?_) <;> cbv
  · refine L_if hE h (fun h => ?_) (fun h => ?_) <;> cbv
    · cases h; (cbv; (try simp only [e_rnil hR]); repeat' (first | exact trivial | exact rfl | exact Or.inr trivial | apply And.intro))
    cases h; (cbv; (try simp only [e_rnil hR]); repeat' (first | exact trivial | exact rfl | exact Or.inr trivial | apply And.intro))
  refine L_if hE h (fun h => ?_) (fun h => ?_) <;> cbv
  · exact And.left (hQ _ _ _ rfl rfl (by cases h; subst hR; rfl))
  refine L_ssin hE h fun h => ?_
  refine L_for hE lay_ok 1 (fun g : Int × Nat => [(4, fS ByteArray.empty), (5, fI .i64 0)]) (fun g => [(0, .iter (ss p0 p1 (sl p0)) g.1)]) (fun g => name_Cut_l1 p0 p1 g.2 g.1 = some r) (fun g => g.2) (_, N) h ?_ ?_
  · (cbv; (try simp only [e_rnil hR]); repeat' (first | exact trivial | exact rfl | exact Or.inr trivial | apply And.intro))
  rintro ⟨v1, m1⟩ h Q1 hN1 hT1 hX1
  have h : name_Cut_l1 p0 p1 m1 v1 = some r := h
  cases m1 with
  | zero => exact nomatch (show (none : Option _) = some _ from h)
  | succ m1 =>
  rw [name_Cut_l1] at h
  rw [q_ar hE, q_cm hE, q_sl hE, q_ss hE] at h
  cbv
  refine L_nx hE h (fun q2 c3 h => ?_) (fun h => ?_) <;> cbv
  · refine L_t hE ?_; cbv
    refine L_rgJ hE lay_ok h 1 (fun j4 : Bool => [(37, fB j4)]) (fun j4 => []) (fun j4 h => ?_) (fun j4 h => ?_) <;> cbv
    · refine L_call hE hR h (fun _ e => name_letter_w e) rfl rfl fun a4 h => ?_; cbv
      refine L_if hE h (fun h => ?_) (fun h => ?_) <;> cbv
      · refine L_if hE h (fun h => ?_) (fun h => ?_) <;> cbv
        · cases h; (cbv; (try simp only [e_rnil hR]); repeat' (first | exact trivial | exact rfl | exact Or.inr trivial | apply And.intro))
        refine L_call hE hR h (fun _ e => name_digit_w e) rfl rfl fun a5 h => ?_; cbv
        cases h; (cbv; (try simp only [e_rnil hR]); repeat' (first | exact trivial | exact rfl | exact Or.inr trivial | apply And.intro))
      cases h; (cbv; (try simp only [e_rnil hR]); repeat' (first | exact trivial | exact rfl | exact Or.inr trivial | apply And.intro))
    refine L_if hE h (fun h => ?_) (fun h => ?_) <;> cbv
    · refine L_ssin hE h fun h => ?_
      refine hT1 _ ?_
      exact And.left (hQ _ _ _ rfl rfl (by cases h; subst hR; rfl))
    refine hN1 _ (_, m1) [] h (Nat.lt_succ_self _) trivial ?_; (cbv; (try simp only [e_rnil hR]); repeat' (first | exact trivial | exact rfl | exact Or.inr trivial | apply And.intro))
  refine L_f hE ?_; cbv
  refine hX1 _ _ ?_; cbv
  exact And.left (hQ _ _ _ rfl rfl (by cases h; subst hR; rfl))
end Gn
end Go.Proofs.YtampjnpnekekiaaDoor
namespace Go.Proofs.YtampjnpnekekiaaDoor
open Go Go.RowKit
set_option linter.unusedVariables false
set_option linter.unusedSimpArgs false
set_option maxRecDepth 100000
set_option maxHeartbeats 4000000
open Ab Sh
namespace Gn
theorem internal_stringslite_HasPrefix_w {p0 : ByteArray} {p1 : ByteArray} {r : Bool} (h : internal_stringslite_HasPrefix_g p0 p1 = some r) : FunS Tryd.prog 37 [fS p0, fS p1] (internal_stringslite_HasPrefix_s rw) r := by
  refine fun_w lay_ok Tryd.call37 Tryd.func37 rfl ?_
  intro A W E Q R hE hR hf hQ; rcases W with ⟨ar, cm, conj, cv, sl, sc, ct, sa, ss, ll, _, _, _, _, mi, mx, _, _, _⟩
  unfold internal_stringslite_HasPrefix_g at h
  rw [q_cm hE, q_sl hE, q_sc hE, q_ss hE] at h
  cbv
  refine L_rgJ hE lay_ok h 0 (fun j1 : Bool => [(4, fB j1)]) (fun j1 => []) (fun j1 h => ?_) (fun j1 h => ?_) <;> cbv
  · refine L_if hE h (fun h => ?_) (fun h => ?_) <;> cbv
    · refine L_ssin hE h fun h => ?_
      cases h; (cbv; (try simp only [e_rnil hR]); repeat' (first | exact trivial | exact rfl | exact Or.inr trivial | apply And.intro))
    cases h; (cbv; (try simp only [e_rnil hR]); repeat' (first | exact trivial | exact rfl | exact Or.inr trivial | apply And.intro))
  exact And.left (hQ _ _ _ rfl rfl (by cases h; subst hR; rfl))
theorem strings_HasPrefix_w {p0 : ByteArray} {p1 : ByteArray} {r : Bool} (h : strings_HasPrefix_g p0 p1 = some r) : FunS Tryd.prog 27 [fS p0, fS p1] (strings_HasPrefix_s rw) r := by
  refine fun_w lay_ok Tryd.call27 Tryd.func27 rfl ?_
  intro A W E Q R hE hR hf hQ; rcases W with ⟨ar, cm, conj, cv, sl, sc, ct, sa, ss, ll, _, _, _, _, mi, mx, _, _, _⟩
  unfold strings_HasPrefix_g at h
  skip
  cbv
  refine L_call hE hR h (fun _ e => internal_stringslite_HasPrefix_w e) rfl rfl fun a1 h => ?_; cbv
  exact And.left (hQ _ _ _ rfl rfl (by cases h; subst hR; rfl))
theorem matcher_op_w {N : Nat} {p0 : ByteArray} {p1 : Int} {r : Int × GFault} (h : matcher_op_g N p0 p1 = some r) : FunS Tryd.prog 15 [fS p0, fI .i64 p1] (matcher_op_s rw) r := by
  refine fun_w lay_ok Tryd.call15 Tryd.func15 rfl ?_
  intro A W E Q R hE hR hf hQ; rcases W with ⟨ar, cm, conj, cv, sl, sc, ct, sa, ss, ll, _, _, _, _, mi, mx, _, _, _⟩
  unfold matcher_op_g at h
  rw [q_sl hE] at h
  cbv
  refine L_ssin hE h fun h => ?_
  refine L_for hE lay_ok 1 (fun g : Int × Nat => [(4, fI .i64 0), (13, fI .i64 g.1)]) (fun g => []) (fun g => matcher_op_l1 p0 p1 g.2 g.1 = some r) (fun g => g.2) (_, N) h ?_ ?_
  · (cbv; (try simp only [e_rnil hR]); repeat' (first | exact trivial | exact rfl | exact Or.inr trivial | apply And.intro))
  rintro ⟨v1, m1⟩ h Q1 hN1 hT1 hX1
  have h : matcher_op_l1 p0 p1 m1 v1 = some r := h
  cases m1 with
  | zero => exact nomatch (show (none : Option _) = some _ from h)
  | succ m1 =>
  rw [matcher_op_l1] at h
  rw [q_ar hE, q_cm hE, q_sl hE, q_sc hE, q_ss hE] at h
  cbv
  refine L_if hE h (fun h => ?_) (fun h => ?_) <;> cbv
  · refine L_cell hE (m := (fI .i64)) h rfl fun r2 h => ?_; cbv
    refine L_call hE hR h (fun _ e => matcher_sign_w e) rfl rfl fun a3 h => ?_; cbv
    refine L_call hE hR h (fun _ e => strings_HasPrefix_w e) rfl rfl fun a4 h => ?_; cbv
    refine L_if hE h (fun h => ?_) (fun h => ?_) <;> cbv
    · refine hT1 _ ?_
      exact And.left (hQ _ _ _ rfl rfl (by cases h; subst hR; rfl))
    refine hN1 _ (_, m1) [] h (Nat.lt_succ_self _) trivial ?_; (cbv; (try simp only [e_rnil hR]); repeat' (first | exact trivial | exact rfl | exact Or.inr trivial | apply And.intro))
  refine hX1 _ _ ?_; cbv
  refine L_if hE h (fun h => ?_) (fun h => ?_) <;> cbv
  · exact And.left (hQ _ _ _ rfl rfl (by cases h; subst hR; rfl))
  refine L_if hE h (fun h => ?_) (fun h => ?_) <;> cbv
  · exact And.left (hQ _ _ _ rfl rfl (by cases h; subst hR; rfl))
  exact And.left (hQ _ _ _ rfl rfl (by cases h; subst hR; rfl))
theorem quote_escape_w {N : Nat} {p0 : ByteArray} {r : Int × Int × Int} (h : quote_escape_g N p0 = some r) : FunS Tryd.prog 29 [fS p0] (quote_escape_s rw) r := by
  refine fun_w lay_ok Tryd.call29 Tryd.func29 rfl ?_
  intro A W E Q R hE hR hf hQ; rcases W with ⟨ar, cm, conj, cv, sl, sc, ct, sa, ss, ll, _, _, _, _, mi, mx, _, _, _⟩
  unfold quote_escape_g at h
  rw [q_cm hE, q_sl hE, q_sa hE] at h
  cbv
  refine L_if hE h (fun h => ?_) (fun h => ?_) <;> cbv
  · exact And.left (hQ _ _ _ rfl rfl (by cases h; subst hR; rfl))
  refine L_rgJ hE lay_ok h 0 (fun j1 : Bool => [(12, fB j1)]) (fun j1 => []) (fun j1 h => ?_) (fun j1 h => ?_) <;> cbv
  · refine L_sin hE h fun h => ?_
    refine L_if hE h (fun h => ?_) (fun h => ?_) <;> cbv
    · cases h; (cbv; (try simp only [e_rnil hR]); repeat' (first | exact trivial | exact rfl | exact Or.inr trivial | apply And.intro))
    refine L_sin hE h fun h => ?_
    cases h; (cbv; (try simp only [e_rnil hR]); repeat' (first | exact trivial | exact rfl | exact Or.inr trivial | apply And.intro))
  refine L_if hE h (fun h => ?_) (fun h => ?_) <;> cbv
  · refine L_sin hE h fun h => ?_
    exact And.left (hQ _ _ _ rfl rfl (by cases h; subst hR; rfl))
  refine L_sin hE h fun h => ?_
  refine L_if hE h (fun h => ?_) (fun h => ?_) <;> cbv
  · exact And.left (hQ _ _ _ rfl rfl (by cases h; subst hR; rfl))
  refine L_for hE lay_ok 0 (fun g : Int × Int × Nat => [(2, fI .u8 0), (3, fI .i64 0), (4, fI .i64 0), (5, fI .i64 g.1), (6, fI .i64 g.2.1)]) (fun g => []) (fun g => quote_escape_l1 p0 g.2.2 g.1 g.2.1 = some r) (fun g => g.2.2) (_, _, N) h ?_ ?_
  · (cbv; (try simp only [e_rnil hR]); repeat' (first | exact trivial | exact rfl | exact Or.inr trivial | apply And.intro))
  rintro ⟨v1, v2, m1⟩ h Q1 hN1 hT1 hX1
  have h : quote_escape_l1 p0 m1 v1 v2 = some r := h
  cases m1 with
  | zero => exact nomatch (show (none : Option _) = some _ from h)
  | succ m1 =>
  rw [quote_escape_l1] at h
  rw [q_ar hE, q_cm hE, q_cv hE, q_sl hE, q_sa hE] at h
  cbv
  refine L_if hE h (fun h => ?_) (fun h => ?_) <;> cbv
  · refine L_if hE h (fun h => ?_) (fun h => ?_) <;> cbv
    · refine hT1 _ ?_
      exact And.left (hQ _ _ _ rfl rfl (by cases h; subst hR; rfl))
    refine L_sin hE h fun h => ?_
    refine L_call hE hR h (fun _ e => strings_IndexByte_w e) rfl rfl fun a3 h => ?_; cbv
    refine L_if hE h (fun h => ?_) (fun h => ?_) <;> cbv
    · refine hT1 _ ?_
      exact And.left (hQ _ _ _ rfl rfl (by cases h; subst hR; rfl))
    refine hN1 _ (_, _, m1) [] h (Nat.lt_succ_self _) trivial ?_; (cbv; (try simp only [e_rnil hR]); repeat' (first | exact trivial | exact rfl | exact Or.inr trivial | apply And.intro))
  refine hX1 _ _ ?_; cbv
  exact And.left (hQ _ _ _ rfl rfl (by cases h; subst hR; rfl))
theorem quote_Read_w {N : Nat} {p0 : ByteArray} {p1 : Int} {r : ByteArray × Int × GFault} (h : quote_Read_g N p0 p1 = some r) : FunS Tryd.prog 16 [fS p0, fI .i64 p1] (quote_Read_s rw) r := by
  refine fun_w lay_ok Tryd.call16 Tryd.func16 rfl ?_
  intro A W E Q R hE hR hf hQ; rcases W with ⟨ar, cm, conj, cv, sl, sc, ct, sa, ss, ll, _, _, _, _, mi, mx, _, _, _⟩
  unfold quote_Read_g at h
  rw [q_ar hE, q_cm hE, q_sl hE, q_sa hE] at h
  cbv
  refine L_rgJ hE lay_ok h 1 (fun j1 : Bool => [(14, fB j1)]) (fun j1 => []) (fun j1 h => ?_) (fun j1 h => ?_) <;> cbv
  · refine L_if hE h (fun h => ?_) (fun h => ?_) <;> cbv
    · cases h; (cbv; (try simp only [e_rnil hR]); repeat' (first | exact trivial | exact rfl | exact Or.inr trivial | apply And.intro))
    cases h; (cbv; (try simp only [e_rnil hR]); repeat' (first | exact trivial | exact rfl | exact Or.inr trivial | apply And.intro))
  refine L_if hE h (fun h => ?_) (fun h => ?_) <;> cbv
  · exact And.left (hQ _ _ _ rfl rfl (by cases h; subst hR; rfl))
  refine L_if hE h (fun h => ?_) (fun h => ?_) <;> cbv
  · exact And.left (hQ _ _ _ rfl rfl (by cases h; subst hR; rfl))
  refine L_sin hE h fun h => ?_
  refine L_if hE h (fun h => ?_) (fun h => ?_) <;> cbv
  · exact And.left (hQ _ _ _ rfl rfl (by cases h; subst hR; rfl))
  refine L_for hE lay_ok 1 (fun g : Int × (List Int) × Nat => [(4, fS ByteArray.empty), (5, fI .i64 0), (7, .lst 1), (8, fI .i64 g.1)]) (fun g => [(1, .list 5 1 (R _ (cI .u8) g.2.1))]) (fun g => quote_Read_l1 N p0 g.2.2 g.1 g.2.1 = some r) (fun g => g.2.2) (_, _, N) h ?_ ?_
  · (cbv; (try simp only [e_rnil hR]); repeat' (first | exact trivial | exact rfl | exact Or.inr trivial | apply And.intro))
  rintro ⟨v1, v2, m1⟩ h Q1 hN1 hT1 hX1
  have h : quote_Read_l1 N p0 m1 v1 v2 = some r := h
  cases m1 with
  | zero => exact nomatch (show (none : Option _) = some _ from h)
  | succ m1 =>
  rw [quote_Read_l1] at h
  rw [q_ar hE, q_cm hE, q_sl hE, q_ss hE] at h
  cbv
  refine L_if hE h (fun h => ?_) (fun h => ?_) <;> cbv
  · refine L_ssin hE h fun h => ?_
    refine L_call hE hR h (fun _ e => utf8_Decode_w e) rfl rfl fun a3 h => ?_; cbv
    refine L_if hE h (fun h => ?_) (fun h => ?_) <;> cbv
    · refine L_bok hE hR h fun s4 e h => ?_; cbv at e; rw [e]; clear e
      refine hT1 _ ?_
      exact And.left (hQ _ _ _ rfl rfl (by cases h; subst hR; rfl))
    refine L_cd hE lay_ok ?_; cbv
    refine L_if hE h (fun h => ?_) (fun h => ?_) <;> cbv
    · refine L_ssin hE h fun h => ?_
      refine L_call hE hR h (fun _ e => quote_escape_w e) rfl rfl fun a5 h => ?_; cbv
      refine L_if hE h (fun h => ?_) (fun h => ?_) <;> cbv
      · refine hT1 _ ?_
        exact And.left (hQ _ _ _ rfl rfl (by cases h; subst hR; rfl))
      refine L_if hE h (fun h => ?_) (fun h => ?_) <;> cbv
      · refine hT1 _ ?_
        exact And.left (hQ _ _ _ rfl rfl (by cases h; subst hR; rfl))
      refine L_appL hE hR h rfl (hf _) (fun _ => rfl) (by decide) fun l6 e h => ?_; cbv at e; rw [e]; clear e
      refine hN1 _ (_, _, m1) [] h (Nat.lt_succ_self _) trivial ?_; (cbv; (try simp only [e_rnil hR]); repeat' (first | exact trivial | exact rfl | exact Or.inr trivial | apply And.intro))
    refine L_call hE hR h (fun _ e => quote_plain_w e) rfl rfl fun a7 h => ?_; cbv
    refine L_if hE h (fun h => ?_) (fun h => ?_) <;> cbv
    · refine hT1 _ ?_
      exact And.left (hQ _ _ _ rfl rfl (by cases h; subst hR; rfl))
    refine L_ssin hE h fun h => ?_
    refine L_appS hE hR h (hf _) (by decide) fun l8 e h => ?_; cbv at e; rw [e]; clear e
    refine hN1 _ (_, _, m1) [] h (Nat.lt_succ_self _) trivial ?_; (cbv; (try simp only [e_rnil hR]); repeat' (first | exact trivial | exact rfl | exact Or.inr trivial | apply And.intro))
  refine hX1 _ _ ?_; cbv
  exact And.left (hQ _ _ _ rfl rfl (by cases h; subst hR; rfl))
end Gn
end Go.Proofs.YtampjnpnekekiaaDoor
