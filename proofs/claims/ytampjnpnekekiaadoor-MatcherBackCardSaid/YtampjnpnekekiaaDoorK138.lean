/- The bodies do what the plain functions tell. -/
import Derived.Test.YtampjnpnekekiaaDoorK134
import Derived.Test.YtampjnpnekekiaaDoorK135
import Derived.Test.YtampjnpnekekiaaDoorK136
import Derived.Test.YtampjnpnekekiaaDoorK137
import Derived.ChangeArms
import Derived.OpenShut
import Derived.DataReads
import Derived.WideShapes
import Derived.Deep.Slices
import Derived.Laws.OwnMore
import Derived.Laws.AppendOwn
import Derived.Test.YtampjnpnekekiaaDoorK119
import Derived.Test.YtampjnpnekekiaaDoorK113
import Derived.ProofKit
import Derived.ShutString
import Derived.Carry
import Derived.LaidMore
import Derived.Deep.DeepHandedRow
namespace Go.Proofs.YtampjnpnekekiaaDoor
open Go Go.RowKit
set_option linter.unusedVariables false
set_option linter.unusedSimpArgs false
set_option maxRecDepth 100000
set_option maxHeartbeats 4000000
open Ab Sh
namespace Gn
theorem l22_MatcherBack_w {N : Nat} {p0 : GMatcher} {p1 : ByteArray} {p2 : ByteArray} {r : Bool} (h : l22_MatcherBack_g N p0 p1 p2 = some r) : FunS Tryd.prog 3 [.agg [fS p0.Name, fI .i64 p0.Op, fS p0.Value], fS p1, fS p2] (l22_MatcherBack_s rw) r := by
  refine fun_w lay_ok Tryd.call3 Tryd.func3 rfl ?_
  intro A W E Q R hE hR hf hQ; rcases W with ⟨ar, cm, conj, cv, sl, sc, ct, sa, ss, ll, _, _, _, _, mi, mx, _, _, _⟩
  unfold l22_MatcherBack_g at h
  rw [q_ar hE, q_cm hE, q_conj hE, q_sl hE, q_sc hE, q_ct hE] at h
  cbv
  refine L_rgJ hE lay_ok h 1 (fun j1 : Bool => [(37, fB j1)]) (fun j1 => []) (fun j1 h => ?_) (fun j1 h => ?_) <;> cbv
  · refine L_if hE h (fun h => ?_) (fun h => ?_) <;> cbv
    · cases h; (cbv; (try simp only [e_rnil hR]); repeat' (first | exact trivial | exact rfl | exact Or.inr trivial | apply And.intro))
    refine L_if hE h (fun h => ?_) (fun h => ?_) <;> cbv
    · cases h; (cbv; (try simp only [e_rnil hR]); repeat' (first | exact trivial | exact rfl | exact Or.inr trivial | apply And.intro))
    refine L_if hE h (fun h => ?_) (fun h => ?_) <;> cbv
    · cases h; (cbv; (try simp only [e_rnil hR]); repeat' (first | exact trivial | exact rfl | exact Or.inr trivial | apply And.intro))
    refine L_if hE h (fun h => ?_) (fun h => ?_) <;> cbv
    · cases h; (cbv; (try simp only [e_rnil hR]); repeat' (first | exact trivial | exact rfl | exact Or.inr trivial | apply And.intro))
    refine L_call hE hR h (fun _ e => matcher_Right_w e) rfl rfl fun a1 h => ?_; cbv
    cases h; (cbv; (try simp only [e_rnil hR]); repeat' (first | exact trivial | exact rfl | exact Or.inr trivial | apply And.intro))
  refine L_if hE h (fun h => ?_) (fun h => ?_) <;> cbv
  · refine L_call hE hR h (fun _ e => l22_works_w e) rfl rfl fun a2 h => ?_; cbv
    exact And.left (hQ _ _ _ rfl rfl (by cases h; subst hR; rfl))
  refine L_call hE hR h (fun _ e => matcher_Text_w e) rfl rfl fun a3 h => ?_; cbv
  refine L_ct hE h fun h => ?_
  refine L_ct hE h fun h => ?_
  refine L_call hE hR h (fun _ e => matcher_Take_w e) rfl rfl fun a4 h => ?_; cbv
  refine L_rgJ hE lay_ok h 4 (fun j2 : Bool => [(61, fB j2)]) (fun j2 => []) (fun j2 h => ?_) (fun j2 h => ?_) <;> cbv
  · refine L_if hE h (fun h => ?_) (fun h => ?_) <;> cbv
    · cases h; (cbv; (try simp only [e_rnil hR]); repeat' (first | exact trivial | exact rfl | exact Or.inr trivial | apply And.intro))
    cases h; (cbv; (try simp only [e_rnil hR]); repeat' (first | exact trivial | exact rfl | exact Or.inr trivial | apply And.intro))
  refine L_cdJ hE lay_ok h 4 (fun j3 : Int => []) (fun j3 => [(3, .box 23 [fS p0.Name, fI .i64 j3, fS p0.Value])]) (fun j3 h => ?_) (fun j3 h => ?_) <;> cbv
  · refine L_if hE h (fun h => ?_) (fun h => ?_) <;> cbv
    · cases h; (cbv; (try simp only [e_rnil hR]); repeat' (first | exact trivial | exact rfl | exact Or.inr trivial | apply And.intro))
    cases h; (cbv; (try simp only [e_rnil hR]); repeat' (first | exact trivial | exact rfl | exact Or.inr trivial | apply And.intro))
  refine L_ct hE h fun h => ?_
  refine L_close hE 4 12 rfl rfl (hf _) rfl rfl ?_; cbv
  refine L_whole hE lay_ok (by kernel_rfl) (by kernel_rfl) ?_; cbv
  refine L_if hE h (fun h => ?_) (fun h => ?_) <;> cbv
  · refine L_if hE h (fun h => ?_) (fun h => ?_) <;> cbv
    · refine L_if hE h (fun h => ?_) (fun h => ?_) <;> cbv
      · refine L_if hE h (fun h => ?_) (fun h => ?_) <;> cbv
        · refine L_if hE h (fun h => ?_) (fun h => ?_) <;> cbv
          · refine L_if hE h (fun h => ?_) (fun h => ?_) <;> cbv
            · refine L_if hE h (fun h => ?_) (fun h => ?_) <;> cbv
              · refine L_if hE h (fun h => ?_) (fun h => ?_) <;> cbv
                · refine L_if hE h (fun h => ?_) (fun h => ?_) <;> cbv
                  · refine L_if hE h (fun h => ?_) (fun h => ?_) <;> cbv
                    · refine L_if hE h (fun h => ?_) (fun h => ?_) <;> cbv
                      · refine L_if hE h (fun h => ?_) (fun h => ?_) <;> cbv
                        · refine L_if hE h (fun h => ?_) (fun h => ?_) <;> cbv
                          · refine L_if hE h (fun h => ?_) (fun h => ?_) <;> cbv
                            · refine L_if hE h (fun h => ?_) (fun h => ?_) <;> cbv
                              · refine L_pcall hE hR h (fun _ e => matcher_Test_w e) rfl rfl fun a5 h => ?_; cbv
                                refine L_if hE h (fun h => ?_) (fun h => ?_) <;> cbv
                                · refine L_if hE h (fun h => ?_) (fun h => ?_) <;> cbv
                                  · refine L_if hE h (fun h => ?_) (fun h => ?_) <;> cbv
                                    · refine L_pcall hE hR h (fun _ e => matcher_Test_w e) rfl rfl fun a6 h => ?_; cbv
                                      refine L_if hE h (fun h => ?_) (fun h => ?_) <;> cbv
                                      · refine L_if hE h (fun h => ?_) (fun h => ?_) <;> cbv
                                        · refine L_if hE h (fun h => ?_) (fun h => ?_) <;> cbv
                                          · refine L_if hE h (fun h => ?_) (fun h => ?_) <;> cbv
                                            · refine L_if hE h (fun h => ?_) (fun h => ?_) <;> cbv
                                              · refine L_pcall hE hR h (fun _ e => matcher_Holds_w e) (by subst hR; rfl) rfl fun a7 h => ?_; cbv
                                                refine L_if hE h (fun h => ?_) (fun h => ?_) <;> cbv
                                                · refine L_if hE h (fun h => ?_) (fun h => ?_) <;> cbv
                                                  · refine L_if hE h (fun h => ?_) (fun h => ?_) <;> cbv
                                                    · refine L_pcall hE hR h (fun _ e => matcher_Test_w e) rfl rfl fun a8 h => ?_; cbv
                                                      refine L_if hE h (fun h => ?_) (fun h => ?_) <;> cbv
                                                      · refine L_if hE h (fun h => ?_) (fun h => ?_) <;> cbv
                                                        · refine L_if hE h (fun h => ?_) (fun h => ?_) <;> cbv
                                                          · refine L_pcall hE hR h (fun _ e => l22_works_w e) rfl rfl fun a9 h => ?_; cbv
                                                            refine L_if hE h (fun h => ?_) (fun h => ?_) <;> cbv
                                                            · exact And.left (hQ _ _ _ rfl rfl (by cases h; subst hR; rfl))
                                                            exact nomatch h
                                                          refine L_if hE h (fun h => ?_) (fun h => ?_) <;> cbv
                                                          · exact nomatch h
                                                          exact And.left (hQ _ _ _ rfl rfl (by cases h; subst hR; rfl))
                                                        exact nomatch h
                                                      exact nomatch h
                                                    exact nomatch h
                                                  exact nomatch h
                                                exact nomatch h
                                              exact nomatch h
                                            exact nomatch h
                                          refine L_if hE h (fun h => ?_) (fun h => ?_) <;> cbv
                                          · exact nomatch h
                                          refine L_if hE h (fun h => ?_) (fun h => ?_) <;> cbv
                                          · exact nomatch h
                                          refine L_if hE h (fun h => ?_) (fun h => ?_) <;> cbv
                                          · exact nomatch h
                                          refine L_if hE h (fun h => ?_) (fun h => ?_) <;> cbv
                                          · exact nomatch h
                                          refine L_if hE h (fun h => ?_) (fun h => ?_) <;> cbv
                                          · exact nomatch h
                                          refine L_if hE h (fun h => ?_) (fun h => ?_) <;> cbv
                                          · exact nomatch h
                                          refine L_if hE h (fun h => ?_) (fun h => ?_) <;> cbv
                                          · exact nomatch h
                                          refine L_f hE ?_; cbv
                                          refine L_f hE ?_; cbv
                                          exact And.left (hQ _ _ _ rfl rfl (by cases h; subst hR; rfl))
                                        exact nomatch h
                                      exact nomatch h
                                    exact nomatch h
                                  exact nomatch h
                                exact nomatch h
                              exact nomatch h
                            exact nomatch h
                          refine L_if hE h (fun h => ?_) (fun h => ?_) <;> cbv
                          · exact nomatch h
                          refine L_if hE h (fun h => ?_) (fun h => ?_) <;> cbv
                          · exact nomatch h
                          refine L_if hE h (fun h => ?_) (fun h => ?_) <;> cbv
                          · exact nomatch h
                          refine L_if hE h (fun h => ?_) (fun h => ?_) <;> cbv
                          · exact nomatch h
                          refine L_if hE h (fun h => ?_) (fun h => ?_) <;> cbv
                          · exact nomatch h
                          refine L_if hE h (fun h => ?_) (fun h => ?_) <;> cbv
                          · exact nomatch h
                          refine L_if hE h (fun h => ?_) (fun h => ?_) <;> cbv
                          · exact nomatch h
                          refine L_f hE ?_; cbv
                          refine L_f hE ?_; cbv
                          refine L_f hE ?_; cbv
                          refine L_f hE ?_; cbv
                          refine L_f hE ?_; cbv
                          refine L_f hE ?_; cbv
                          refine L_f hE ?_; cbv
                          refine L_f hE ?_; cbv
                          refine L_f hE ?_; cbv
                          refine L_f hE ?_; cbv
                          exact And.left (hQ _ _ _ rfl rfl (by cases h; subst hR; rfl))
                        exact nomatch h
                      exact nomatch h
                    exact nomatch h
                  refine L_if hE h (fun h => ?_) (fun h => ?_) <;> cbv
                  · exact nomatch h
                  refine L_if hE h (fun h => ?_) (fun h => ?_) <;> cbv
                  · exact nomatch h
                  refine L_if hE h (fun h => ?_) (fun h => ?_) <;> cbv
                  · exact nomatch h
                  refine L_f hE ?_; cbv
                  refine L_f hE ?_; cbv
                  refine L_f hE ?_; cbv
                  refine L_f hE ?_; cbv
                  refine L_f hE ?_; cbv
                  refine L_f hE ?_; cbv
                  refine L_f hE ?_; cbv
                  refine L_f hE ?_; cbv
                  refine L_f hE ?_; cbv
                  refine L_f hE ?_; cbv
                  refine L_f hE ?_; cbv
                  refine L_f hE ?_; cbv
                  refine L_f hE ?_; cbv
                  refine L_f hE ?_; cbv
                  refine L_f hE ?_; cbv
                  refine L_f hE ?_; cbv
                  refine L_f hE ?_; cbv
                  refine L_f hE ?_; cbv
                  exact And.left (hQ _ _ _ rfl rfl (by cases h; subst hR; rfl))
                exact nomatch h
              exact nomatch h
            exact nomatch h
          exact nomatch h
        exact nomatch h
      exact nomatch h
    exact nomatch h
  refine L_if hE h (fun h => ?_) (fun h => ?_) <;> cbv
  · exact nomatch h
  refine L_if hE h (fun h => ?_) (fun h => ?_) <;> cbv
  · exact nomatch h
  refine L_if hE h (fun h => ?_) (fun h => ?_) <;> cbv
  · exact nomatch h
  refine L_if hE h (fun h => ?_) (fun h => ?_) <;> cbv
  · exact nomatch h
  refine L_if hE h (fun h => ?_) (fun h => ?_) <;> cbv
  · exact nomatch h
  refine L_if hE h (fun h => ?_) (fun h => ?_) <;> cbv
  · exact nomatch h
  refine L_if hE h (fun h => ?_) (fun h => ?_) <;> cbv
  · exact nomatch h
  refine L_f hE ?_; cbv
  refine L_f hE ?_; cbv
  refine L_f hE ?_; cbv
  refine L_f hE ?_; cbv
  refine L_f hE ?_; cbv
  refine L_f hE ?_; cbv
  refine L_f hE ?_; cbv
  refine L_f hE ?_; cbv
  refine L_f hE ?_; cbv
  refine L_f hE ?_; cbv
  refine L_f hE ?_; cbv
  refine L_f hE ?_; cbv
  refine L_f hE ?_; cbv
  refine L_f hE ?_; cbv
  refine L_f hE ?_; cbv
  refine L_f hE ?_; cbv
  refine L_f hE ?_; cbv
  refine L_f hE ?_; cbv
  refine L_f hE ?_; cbv
  refine L_f hE ?_; cbv
  refine L_f hE ?_; cbv
  refine L_f hE ?_; cbv
  exact And.left (hQ _ _ _ rfl rfl (by cases h; subst hR; rfl))
end Gn
end Go.Proofs.YtampjnpnekekiaaDoor
namespace Go.Proofs.YtampjnpnekekiaaDoor
open Go Go.RowKit Go.ChangeShapes Go.WideShapes
def Fits (A : Option Addr) (n cap : Nat) : Prop := n ≤ cap ∧ (A = none → cap = 0)
theorem Fits.none_ : Fits none 0 0 := ⟨Nat.le_refl _, fun _ => rfl⟩
end Go.Proofs.YtampjnpnekekiaaDoor
namespace Go.Proofs.YtampjnpnekekiaaDoor
open Go Go.RowKit Go.ChangeShapes Go.WideShapes
set_option linter.unusedVariables false
set_option linter.unusedSimpArgs false
open Ab
namespace Op2
def CRep (G : Nat → Prop) (w : World) (ts : List T) (cs : List Value) : Prop := cs.length = ts.length ∧ ∀ (j : Nat) t u, ts[j]? = some t → cs[j]? = some u → TRep G w t u
theorem crep_nil {G : Nat → Prop} {w : World} : CRep G w [] [] := ⟨rfl, fun j t u h => by simp at h⟩
theorem crep_cons {G : Nat → Prop} {w : World} {t : T} {u : Value} {ts : List T} {cs : List Value} (h : TRep G w t u) (hr : CRep G w ts cs) : CRep G w (t :: ts) (u :: cs) := by
  refine ⟨by simp [hr.1], fun j a b h1 h2 => ?_⟩
  cases j with
  | zero => simp at h1 h2; subst h1; subst h2; exact h
  | succ j => exact hr.2 j a b (by simpa using h1) (by simpa using h2)
theorem crep_app {G : Nat → Prop} {w : World} : ∀ {ts us : List T} {cs ds : List Value}, CRep G w ts cs → CRep G w us ds → CRep G w (ts ++ us) (cs ++ ds)
  | [], us, [], ds, _, h => h
  | [], us, c :: cs, ds, h, _ => by have := h.1; simp at this
  | t :: ts, us, [], ds, h, _ => by have := h.1; simp at this
  | t :: ts, us, c :: cs, ds, h, g => crep_cons (h.2 0 t c rfl rfl) (crep_app ⟨by have := h.1; simpa using this, fun j a b h1 h2 => h.2 (j + 1) a b (by simpa using h1) (by simpa using h2)⟩ g)
theorem agg_rep {cx : Cx} {w : World} {ts : List T} {cs : Array Value} (h : CRep cx.G w ts cs.toList) : VRep cx w (.agg (ts.map V.t)) (.agg cs) := by
  refine .agg _ _ (by simpa using h.1) (fun c hc => by obtain ⟨t, -, rfl⟩ := List.mem_map.1 hc; rfl) (fun i c u h1 h2 => ?_)
  rw [List.getElem?_map] at h1
  obtain ⟨t, ht, rfl⟩ := Option.map_eq_some_iff.1 h1
  exact .t _ _ (h.2 i t u ht (by simpa using h2))
section
variable {H : Type} {enc : TypeId × Value → H} {P : Program} {W : World} {sp : Nat → Bool} {held : Bool} {fuel : Nat} {x : DataW H × List MemPlace}
abbrev GW (W : World) : Nat → Prop := fun b => b < W.heap.size
theorem o_int {t : TypeId} {k : IntKind} {cs : List Value} (ht : P.underlying t = some (.int k)) (h : DataW.trod enc P W 0 sp held fuel t cs = some x) : ∃ a : Int, CRep (GW W) W [.flat (.int k a)] cs := by
  obtain ⟨n, rfl, -, -⟩ := DataW.trod_int ht h
  exact ⟨n, crep_cons (.flat _ rfl) crep_nil⟩
theorem o_str {t : TypeId} {cs : List Value} (ht : P.underlying t = some .string) (h : DataW.trod enc P W 0 sp held fuel t cs = some x) : ∃ a : ByteArray, CRep (GW W) W [.flat (.string a)] cs := by
  obtain ⟨n, rfl, -, -⟩ := DataW.trod_string ht h
  exact ⟨n, crep_cons (.flat _ rfl) crep_nil⟩
theorem fld {fs : Array Field} {n : Nat} {cs : List Value} {xs : List (DataW H × List MemPlace)} (hl : xs.length = fs.size)
    (hf : ∀ (i : Nat) (f : Field), fs[i]? = some f → DataW.trod enc P W 0 sp held n f.type ((cs.drop f.offset).take (P.cellsOf f.type)) = xs[i]?) (i : Nat) (f : Field) (h : fs[i]? = some f) :
    ∃ y, DataW.trod enc P W 0 sp held n f.type ((cs.drop f.offset).take (P.cellsOf f.type)) = some y := by
  have := hf i f h
  obtain ⟨hi, -⟩ := Array.getElem?_eq_some_iff.1 h
  rw [List.getElem?_eq_getElem (by omega)] at this
  exact ⟨_, this⟩
theorem part_end {G : Nat → Prop} {cs : List Value} {o s : Nat} {ts : List T} (hl : cs.length = o + s) (h : CRep G W ts ((cs.drop o).take s)) : CRep G W ts (cs.drop o) := by
  rwa [List.take_of_length_le (by rw [List.length_drop]; omega)] at h
theorem part {G : Nat → Prop} {cs : List Value} {o s : Nat} {ts us : List T} (h : CRep G W ts ((cs.drop o).take s)) (hr : CRep G W us (cs.drop (o + s))) : CRep G W (ts ++ us) (cs.drop o) := by
  have e : cs.drop o = (cs.drop o).take s ++ cs.drop (o + s) := by rw [← List.drop_drop, List.take_append_drop]
  rw [e]
  exact crep_app h hr
end
theorem vr_nil {cx : Cx} {w : World} : VReps cx w [] ⟨[]⟩ := ⟨rfl, fun i c u h => by simp at h⟩
theorem vr_cons {cx : Cx} {w : World} {a : V} {av : List V} {y : Value} {ys : List Value} (h : VRep cx w a y) (hr : VReps cx w av ⟨ys⟩) : VReps cx w (a :: av) ⟨y :: ys⟩ :=
  ⟨by have := hr.1; simp at this ⊢; exact this, fun i c u h1 h2 => by
    cases i with
    | zero => simp at h1 h2; subst h1; subst h2; exact h
    | succ i => exact hr.2 i c u (by simpa using h1) (by simpa using h2)⟩
theorem v_agg {cx : Cx} {w : World} {ts : List T} {cs : Array Value} (h : CRep cx.G w ts cs.toList) : VRep cx w (.agg (ts.map V.t)) (.agg cs) := agg_rep h
end Op2
end Go.Proofs.YtampjnpnekekiaaDoor
namespace Go.Proofs.YtampjnpnekekiaaDoor
open Go Go.ChangeShapes Go.WideShapes Go.ChangeAt Go.RowKit
section
variable {H : Type} {enc : TypeId × Value → H} {P : Program} {W W' : World}
theorem below_all (hl : laidOutB P = true) (hb : Below W.heap.size W W') : ∀ (ts : List TypeId) (vs : List Value) (ds : List (DataW H)) (ps : List MemPlace),
    (ts.all fun t => P.readableRec t && decide (t < P.types.size)) = true → DataW.TrodAll enc P W 0 (fun _ => true) true ts vs ds ps → (∀ x ∈ ps, x.block < W.heap.size) →
    DataW.TrodAll enc P W' 0 (fun b => decide (b < W.heap.size)) true ts vs ds ps
  | [], vs, ds, ps, _, h, _ => by
    obtain ⟨rfl, rfl, rfl⟩ := trodAll_nil h
    exact trodAll_mk0
  | t :: ts, vs, ds, ps, hr, h, hlt => by
    obtain ⟨v, vs', d, ds', p, q, rfl, rfl, rfl, h0, r0⟩ := trodAll_cons h
    simp only [List.all_cons, Bool.and_eq_true, decide_eq_true_eq] at hr
    exact trodAll_cons_mk (Below.trod hl hr.1.1 hr.1.2 h0 hb (fun x hx => hlt x (List.mem_append_left _ hx)))
      (below_all hl hb ts vs' ds' q (by simpa using hr.2) r0 (fun x hx => hlt x (List.mem_append_right _ hx)))
theorem law_post {s : ChangeSpec} {f : Func} {args : Array Value} {ds gs : List (DataW H)} {before : List MemPlace} {t : TypeId} (hl : laidOutB P = true)
    (hr : (f.params.toList.all fun t => P.readableRec t && decide (t < P.types.size)) = true) (hres : f.resultTypes = #[t]) (ht : P.underlying t = some .bool)
    (hv : s.vars = []) (hfn : s.fn H (ds ++ gs) = { results := [.lit (.bool true)], args := ds })
    (hW : DataW.Whole enc P f.params.toList s.vars false W args.toList ds gs before) (hb : Below W.heap.size W W') : s.post enc P f false true false false W args (.bool true) W' := by
  have hW' := hW
  have hlt := hW.lt
  obtain ⟨p, q, hA, hV, rfl, _, _⟩ := hW
  refine ⟨ds, gs, _, [], p, [], hW', ?_, ?_, ?_, hb.frame _, fun h => by cases h⟩
  · rw [hfn, hres]
    exact trodAll_mk1 (shut_bool ht _)
  · rw [hfn]
    exact below_all hl hb _ _ _ _ hr hA (fun x hx => by simpa using hlt x (List.mem_append_left _ hx))
  · rw [hfn, hv]
    exact rfl
end
def flatD : DataW Unit → List Value
  | .lit (.int k n) => [.int k n]
  | .agg ps => flatDs ps
  | _ => []
  where flatDs : List (DataW Unit) → List Value
  | [] => []
  | d :: r => flatD d ++ flatDs r
end Go.Proofs.YtampjnpnekekiaaDoor
