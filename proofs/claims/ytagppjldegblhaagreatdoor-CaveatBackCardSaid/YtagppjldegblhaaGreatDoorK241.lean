/- Texts that the proof leans on. -/
import Derived.Test.YtagppjldegblhaaGreatDoorK235
set_option linter.unusedVariables false
set_option linter.unusedSimpArgs false
set_option maxRecDepth 100000
set_option maxHeartbeats 4000000
namespace Go.Proofs.YtagppjldegblhaaGreatDoor
open Go Go.RowKit
open Ab Sh
namespace Gn
def r15_cost_s (R : RF) (r : Int) : V := fI .i64 r
def r15_Great_s (R : RF) (r : Bool) : V := fB r
def r22_Great_s (R : RF) (r : Bool) : V := fB r
end Gn
end Go.Proofs.YtagppjldegblhaaGreatDoor
namespace Go.Proofs.YtagppjldegblhaaGreatDoor
open Go
open Sh Gn
namespace Pl
theorem kid_size {n c : Node} (h : c ∈ n.kids) : c.size + 1 ≤ n.size := by
 rw [Node.size_eq n]
 have key : ∀ l : List Node, c ∈ l → c.size ≤ Node.sizes l := by
  intro l
  induction l with
  | nil => intro h; cases h
  | cons a r ih =>
    intro h
    rw [Node.sizes_cons]
    rcases List.mem_cons.1 h with rfl | h
    · omega
    · have := ih h; omega
 have := key _ h
 omega
end Pl
end Go.Proofs.YtagppjldegblhaaGreatDoor
namespace Go.Proofs.YtagppjldegblhaaGreatDoor
open Go
open Sh Gn
namespace Pl
theorem parse_size (l : List UInt8) : (Rx.parse l).1.size ≤ 1000 := by
 have hz : Rx.zero.size ≤ 1000 := by simp [Rx.zero, Node.size_eq, Node.kids, Node.sizes_nil]
 unfold Rx.parse
 split
 · exact hz
 · cases hr : Rx.alt l (Rx.atom l 16) 0 with
   | bad e p => exact hz
   | out => exact hz
   | ok n p =>
     have h1 := Rx.size_alt (Rx.size_atom l 16) (fine_atom l 16) (Nat.zero_le _) hr
     have hfi := fine_alt l (Rx.atom l 16) (fine_atom l 16) 0 (Nat.zero_le _)
     rw [hr] at hfi
     have h2 : p ≤ l.length := hfi.2
     dsimp only
     split
     · split <;> exact hz
     · show n.size ≤ 1000; omega
theorem cost_l (rec : Node → Int → Option Int) (n : Node) (x : Int) (hl : n.kids.length ≤ 10000) (hr : ∀ c ∈ n.kids, ∃ r, rec c x = some r) : ∀ (m k : Nat) (v : Int), k ≤ n.kids.length → n.kids.length < k + m → ∃ r, r15_cost_l1 rec n x m v k = some r := by
 intro m
 induction m with
 | zero => intro k v h1 h2; omega
 | succ m ih =>
   intro k v h1 h2
   rw [r15_cost_l1, cm_lss, cond_dec, ll_eq]
   by_cases c : k < n.kids.length
   · obtain ⟨r, h⟩ := hr _ (List.getElem_mem c)
     rw [if_pos (by omega), at_get c, inc1 (by omega), Option.bind_some, h, Option.bind_some, cm_gtr, cond_dec]
     split
     · exact ⟨_, rfl⟩
     · exact ih (k + 1) _ (by omega) (by omega)
   · rw [if_neg (by omega)]
     simp only [cm_lss, cm_eql, cm_leq, cm_geq, cm_gtr, cond_dec, ite_and, Option.bind_some]
     (repeat' split) <;> exact ⟨_, rfl⟩
theorem cost_p (x : Int) : ∀ (m : Nat) (n : Node), n.size ≤ m → m ≤ 1000 → ∀ N, m + 10000 ≤ N → ∃ r, r15_cost_g N n x = some r := by
 intro m
 induction m with
 | zero => intro n h; have := n.size_pos; omega
 | succ m ih =>
   intro n h hm N hN
   obtain ⟨N, rfl⟩ : ∃ M, N = M + 1 := ⟨N - 1, by omega⟩
   have hk := n.kids_le
   rw [r15_cost_g]
   exact cost_l (r15_cost_g N) n x (by omega) (fun c hc => ih c (by have := kid_size hc; omega) (by omega) N (by omega)) N 0 1 (by omega) (by omega)
end Pl
end Go.Proofs.YtagppjldegblhaaGreatDoor
namespace Go.Proofs.YtagppjldegblhaaGreatDoor
open Go Go.RowKit
open Ab Sh
namespace Gn
def r23_Great_s (R : RF) (r : Bool) : V := fB r
def r23_Great_l1 (N : Nat) (p0 : List GMatcher) (p1 : List GLabel) : Nat → Int → Option Bool
| 0, _ => none
| m + 1, v1 =>
 cond (cm .lss v1 (ll (rw _ cMatcher p0)))
 ((at_ p0 v1).bind fun r2 =>
 (r22_Great_g N r2 0).bind fun a3 =>
 cond (a3)
 (some true)
 (r23_Great_l2 N (r23_Great_l1 N p0 p1 m) p0 p1 v1 N 0))
 (some false)
def r23_Great_g (N : Nat) (p0 : List GMatcher) (p1 : List GLabel) : Option Bool :=
 (cond (cm .gtr (ll (rw _ cMatcher p0)) 70)
 (some true)
 (some (cm .gtr (ll (rw _ cLabel p1)) 40)) : Option Bool).bind fun j1 =>
 cond (j1)
 (some true)
 (r23_Great_l1 N p0 p1 N 0)
end Gn
end Go.Proofs.YtagppjldegblhaaGreatDoor
namespace Go.Proofs.YtagppjldegblhaaGreatDoor
open Go
open Sh Gn
namespace Pl
def Mild (p : List GLabel) (x : GMatcher) : Prop := x.Value.size ≤ 1200 ∧ x.Name.size ≤ 100 ∧ (x.Op ≤ 2 ∨ ∀ y ∈ p, y.Name = x.Name → y.Value.size ≤ 12)
theorem great2_p {N : Nat} (hN : 30000 ≤ N) (g : GMatcher) (k : Nat) : ∃ b, r22_Great_g N g k = some b ∧ (b = false → g.Value.size ≤ 1200 ∧ g.Name.size ≤ 100 ∧ (g.Op ≤ 2 ∨ k ≤ 12)) := by
 unfold r22_Great_g
 simp only [cm_lss, cm_gtr, cm_eql, cond_dec, ite_or, sl_eq, Option.bind_some]
 by_cases c1 : g.Op < 3
 · rw [if_pos c1]
   refine ⟨_, rfl, fun h => ?_⟩
   have := of_decide_eq_false h
   omega
 rw [if_neg c1]
 by_cases c2 : (60 : Int) < g.Value.size ∨ (100 : Int) < g.Name.size ∨ (12 : Int) < k
 · rw [if_pos c2]
   exact ⟨_, rfl, fun h => by cases h⟩
 rw [if_neg c2, parse_p (by omega), Option.bind_some]
 unfold r15_Great_g
 obtain ⟨r, hr⟩ := cost_p k 1000 (Rx.parse g.Value.data.toList).1 (parse_size _) (by omega) N (by omega)
 rw [hr]
 simp only [Option.bind_some, cm_gtr, bind_self]
 split
 · exact ⟨_, rfl, fun _ => by omega⟩
 · exact ⟨_, rfl, fun _ => by omega⟩
theorem sgreat_in {N : Nat} (hN : 30000 ≤ N) (l : List GMatcher) (p : List GLabel) (hp : p.length ≤ 10000) (k1 : Int → Option Bool) (i : Nat) (hi : i < l.length) (hi2 : i ≤ 10000) : ∀ (m k : Nat), k ≤ p.length → p.length < k + m →
 r23_Great_l2 N k1 l p i m k = some true ∨ (r23_Great_l2 N k1 l p i m k = k1 ((i + 1 : Nat) : Int) ∧ ∀ j (h : j < p.length), k ≤ j → p[j].Name = l[i].Name → l[i].Op ≤ 2 ∨ p[j].Value.size ≤ 12) := by
 intro m
 induction m with
 | zero => intro k h1 h2; omega
 | succ m ih =>
   intro k h1 h2
   rw [r23_Great_l2]
   by_cases c : k < p.length
   · obtain ⟨b, hb, hb2⟩ := great2_p hN l[i] p[k].Value.size
     rw [cm_lss, cond_dec, ll_eq, if_pos (by omega), at_get c, at_get hi, inc1 (by omega)]
     simp only [Option.bind_some, sc_eql, sl_eq, hb]
     by_cases e : p[k].Name = l[i].Name
     · simp only [e, decide_true, _root_.cond_true]
       cases b with
       | true => exact .inl rfl
       | false =>
         rw [_root_.cond_false]
         rcases ih (k + 1) (by omega) (by omega) with h | ⟨h, h'⟩
         · exact .inl h
         · refine .inr ⟨h, fun j hj hkj hn => ?_⟩
           rcases Nat.lt_or_ge k j with h3 | h3
           · exact h' j hj h3 hn
           · obtain rfl : j = k := by omega
             exact (hb2 rfl).2.2
     · simp only [e, decide_false, _root_.cond_false]
       rcases ih (k + 1) (by omega) (by omega) with h | ⟨h, h'⟩
       · exact .inl h
       · refine .inr ⟨h, fun j hj hkj hn => ?_⟩
         rcases Nat.lt_or_ge k j with h3 | h3
         · exact h' j hj h3 hn
         · obtain rfl : j = k := by omega
           exact absurd hn e
   · rw [cm_lss, cond_dec, ll_eq, if_neg (by omega), inc1 (by omega)]
     exact .inr ⟨rfl, fun j hj hkj _ => by omega⟩
theorem sgreat_from {N : Nat} (hN : 30000 ≤ N) (l : List GMatcher) (p : List GLabel) (hl : l.length ≤ 10000) (hp : p.length ≤ 10000) : ∀ (m k : Nat), k ≤ l.length → l.length < k + m →
 ∃ b, r23_Great_l1 N l p m k = some b ∧ (b = false → ∀ j (h : j < l.length), k ≤ j → Mild p l[j]) := by
 intro m
 induction m with
 | zero => intro k h1 h2; omega
 | succ m ih =>
   intro k h1 h2
   rw [r23_Great_l1]
   by_cases c : k < l.length
   · obtain ⟨b, hb, hb2⟩ := great2_p hN l[k] 0
     rw [show ((0 : Nat) : Int) = 0 from rfl] at hb
     rw [cm_lss, cond_dec, ll_eq, if_pos (by omega), at_get c, Option.bind_some, hb, Option.bind_some]
     cases b with
     | true => exact ⟨true, rfl, fun h => by cases h⟩
     | false =>
       rw [_root_.cond_false]
       rcases sgreat_in hN l p hp (r23_Great_l1 N l p m) k c (by omega) N 0 (by omega) (by omega) with h | ⟨h, h'⟩
       · exact ⟨true, h, fun h => by cases h⟩
       · rw [show ((0 : Nat) : Int) = 0 from rfl] at h
         rw [h]
         obtain ⟨b, q1, q2⟩ := ih (k + 1) (by omega) (by omega)
         refine ⟨b, q1, fun e j hj hkj => ?_⟩
         rcases Nat.lt_or_ge k j with h3 | h3
         · exact q2 e j hj h3
         · obtain rfl : j = k := by omega
           obtain ⟨s1, s2, s3⟩ := hb2 rfl
           refine ⟨s1, s2, ?_⟩
           by_cases h4 : l[j].Op ≤ 2
           · exact .inl h4
           · refine .inr fun y hy hn => ?_
             obtain ⟨q, hq, rfl⟩ := List.mem_iff_getElem.1 hy
             rcases h' q hq (by omega) hn with h5 | h5
             · omega
             · exact h5
   · rw [cm_lss, cond_dec, ll_eq, if_neg (by omega)]
     exact ⟨false, rfl, fun _ j hj hkj => by omega⟩
theorem sgreat_p {N : Nat} (hN : 30000 ≤ N) (l : List GMatcher) (p : List GLabel) : ∃ b, r23_Great_g N l p = some b ∧ (b = false → l.length ≤ 70 ∧ p.length ≤ 40 ∧ ∀ x ∈ l, Mild p x) := by
 unfold r23_Great_g
 simp only [cm_gtr, cond_dec, ll_eq, ite_or, Option.bind_some]
 by_cases c : (70 : Int) < l.length ∨ (40 : Int) < p.length
 · rw [if_pos c]; exact ⟨true, rfl, fun h => by cases h⟩
 · rw [if_neg c]
   obtain ⟨b, h1, h2⟩ := sgreat_from hN l p (by omega) (by omega) N 0 (by omega) (by omega)
   refine ⟨b, h1, fun e => ⟨by omega, by omega, fun x hx => ?_⟩⟩
   obtain ⟨j, hj, rfl⟩ := List.mem_iff_getElem.1 hx
   exact h2 e j hj (by omega)
end Pl
end Go.Proofs.YtagppjldegblhaaGreatDoor
namespace Go.Proofs.YtagppjldegblhaaGreatDoor
open Go Go.RowKit
open Ab Sh
namespace Gn
def cCaveat (x : GCaveat) : List Ab.T := [.flat (.int .i64 x.Kind), .flat (.int .i64 x.Num), .slc (rw _ cS x.Words), .slc (rw _ cMatcher x.Sel)]
end Gn
end Go.Proofs.YtagppjldegblhaaGreatDoor
namespace Go.Proofs.YtagppjldegblhaaGreatDoor
open Go Go.RowKit
open Ab Sh
namespace Gn
def r27_Great_s (R : RF) (r : Bool) : V := fB r
def r27_Great_g (N : Nat) (p0 : GCaveat) : Option Bool :=
 (cond (cm .gtr (ll (rw _ cS p0.Words)) 40)
 (some true)
 ((r23_Great_g N p0.Sel []).bind fun a1 =>
 some a1) : Option Bool).bind fun j1 =>
 cond (j1)
 (some true)
 (r27_Great_l1 p0 N 0)
end Gn
end Go.Proofs.YtagppjldegblhaaGreatDoor
namespace Go.Proofs.YtagppjldegblhaaGreatDoor
open Go Go.RowKit
open Sh Gn
namespace Pl
theorem cgreat_from (c0 : GCaveat) (hl : c0.Words.length ≤ 1000) : ∀ (m k : Nat), k ≤ c0.Words.length → c0.Words.length < k + m → ∃ b, r27_Great_l1 c0 m k = some b := by
 intro m
 induction m with
 | zero => intro k h1 h2; omega
 | succ m ih =>
   intro k h1 h2
   rw [r27_Great_l1]
   simp only [cm_lss, cm_gtr, cond_dec, ll_eq]
   by_cases d : k < c0.Words.length
   · rw [if_pos (by omega), at_get d, Option.bind_some, inc1 (by omega)]
     split
     · exact ⟨_, rfl⟩
     · exact ih (k + 1) (by omega) (by omega)
   · rw [if_neg (by omega)]; exact ⟨_, rfl⟩
section
variable {N : Nat} (hN : 200000 ≤ N) (hT : ∀ g : GMatcher, g.Value.size ≤ 1200 → g.Name.size ≤ 100 → matcher_Text_g N g = some (Mt.ofL (Mt.text (toM g))) ∧ r22_Text_g N g = some (Mt.ofL (Mt.text (toM g))) ∧ (Mt.text (toM g)).length ≤ 6000)
include hN hT
theorem cgreat_p (c : GCaveat) : ∃ b, r27_Great_g N c = some b ∧ (b = false → Mid N c) := by
 unfold r27_Great_g
 rw [cm_gtr, cond_dec, ll_eq]
 by_cases a : (40 : Int) < (c.Words.length : Int)
 · rw [if_pos a]; exact ⟨true, rfl, fun h => by cases h⟩
 · obtain ⟨b, h1, h2⟩ := sgreat_p (N := N) (by omega) c.Sel []
   rw [if_neg a, h1, Option.bind_some, Option.bind_some]
   cases b with
   | true => exact ⟨true, rfl, fun h => by cases h⟩
   | false =>
     rw [cond_false]
     obtain ⟨b', h3⟩ := cgreat_from c (by omega) N 0 (by omega) (by omega)
     have h3 : r27_Great_l1 c N 0 = some b' := h3
     obtain ⟨z1, z2, z3⟩ := h2 rfl
     exact ⟨b', h3, fun _ => ⟨by omega, z1, fun x hx => by
      have := hT x (z3 x hx).1 (z3 x hx).2.1
      exact ⟨⟨this.1, this.2.2⟩, this.2.1⟩⟩⟩
end
end Pl
end Go.Proofs.YtagppjldegblhaaGreatDoor
namespace Go.Proofs.YtagppjldegblhaaGreatDoor
open Go Go.RowKit
open Ab Sh
namespace Gn
theorem r15_cost_w : ∀ {N : Nat} {p0 : Node} {p1 : Int} {r : Int}, r15_cost_g N p0 p1 = some r → FunS Tryz.prog 90 [.agg [fI .i64 p0.kind, fI .u64 (p0.set.a.toNat : Int), fI .u64 (p0.set.b.toNat : Int), fI .u64 (p0.set.c.toNat : Int), fI .u64 (p0.set.d.toNat : Int), .t (.slc (rw _ nodeRow p0.kids)), fI .i64 p0.min, fI .i64 p0.max], fI .i64 p1] (r15_cost_s rw) r := by
 intro N
 induction N with
 | zero => intros; rename_i h; exact nomatch (show (none : Option _) = some _ from h)
 | succ N ih =>
 intro p0 p1 r h
 refine fun_w lay_ok Tryz.call90 Tryz.func90 rfl ?_
 intro A W E Q R hE hR hf hQ; rcases W with ⟨ar, cm, conj, cv, sl, sc, ct, sa, ss, ll, _, _, _, _, mi, mx, _, _, _⟩
 rw [← hR]
 rw [r15_cost_g] at h
 skip
 cbv
 refine L_for hE lay_ok 1 (fun g : Int × Int × Nat => [(4, fI .i64 0), (5, fI .i64 g.1), (6, fI .i64 g.2.1)]) (fun g => []) (fun g => r15_cost_l1 (r15_cost_g N) p0 p1 g.2.2 g.1 g.2.1 = some r) (fun g => g.2.2) (_, _, N) h ?_ ?_
 · (cbv; (try simp only [e_rnil hR]); repeat' (first | exact trivial | exact rfl | exact Or.inr trivial | apply And.intro))
 rintro ⟨v1, v2, m1⟩ h Q1 hN1 hT1 hX1
 have h : r15_cost_l1 (r15_cost_g N) p0 p1 m1 v1 v2 = some r := h
 cases m1 with
 | zero => exact nomatch (show (none : Option _) = some _ from h)
 | succ m1 =>
 rw [r15_cost_l1] at h
 rw [q_ar hE, q_cm hE, q_ll hE, ← hR] at h
 cbv
 refine L_if hE h (fun h => ?_) (fun h => ?_) <;> cbv
 · refine L_rowN hE hR h fun r3 h => ?_; cbv
   refine L_call hE hR h (fun _ e => ih e) (by subst hR; rfl) rfl fun a4 h => ?_; cbv
   refine L_if hE h (fun h => ?_) (fun h => ?_) <;> cbv
   · refine hT1 _ ?_
     exact And.left (hQ _ _ _ rfl rfl (by cases h; subst hR; rfl))
   refine hN1 _ (_, _, m1) [] h (Nat.lt_succ_self _) trivial ?_; (cbv; (try simp only [e_rnil hR]); repeat' (first | exact trivial | exact rfl | exact Or.inr trivial | apply And.intro))
 refine hX1 _ _ ?_; cbv
 refine L_rgJ hE lay_ok h 1 (fun j4 : Bool => [(33, fB j4)]) (fun j4 => []) (fun j4 h => ?_) (fun j4 h => ?_) <;> cbv
 · refine L_if hE h (fun h => ?_) (fun h => ?_) <;> cbv
   · cases h; (cbv; (try simp only [e_rnil hR]); repeat' (first | exact trivial | exact rfl | exact Or.inr trivial | apply And.intro))
   cases h; (cbv; (try simp only [e_rnil hR]); repeat' (first | exact trivial | exact rfl | exact Or.inr trivial | apply And.intro))
 refine L_if hE h (fun h => ?_) (fun h => ?_) <;> cbv
 · exact And.left (hQ _ _ _ rfl rfl (by cases h; subst hR; rfl))
 refine L_rgJ hE lay_ok h 1 (fun j5 : Bool => [(55, fB j5)]) (fun j5 => []) (fun j5 h => ?_) (fun j5 h => ?_) <;> cbv
 · refine L_if hE h (fun h => ?_) (fun h => ?_) <;> cbv
   · refine L_if hE h (fun h => ?_) (fun h => ?_) <;> cbv
     · refine L_if hE h (fun h => ?_) (fun h => ?_) <;> cbv
       · cases h; (cbv; (try simp only [e_rnil hR]); repeat' (first | exact trivial | exact rfl | exact Or.inr trivial | apply And.intro))
       cases h; (cbv; (try simp only [e_rnil hR]); repeat' (first | exact trivial | exact rfl | exact Or.inr trivial | apply And.intro))
     cases h; (cbv; (try simp only [e_rnil hR]); repeat' (first | exact trivial | exact rfl | exact Or.inr trivial | apply And.intro))
   cases h; (cbv; (try simp only [e_rnil hR]); repeat' (first | exact trivial | exact rfl | exact Or.inr trivial | apply And.intro))
 refine L_if hE h (fun h => ?_) (fun h => ?_) <;> cbv
 · exact And.left (hQ _ _ _ rfl rfl (by cases h; subst hR; rfl))
 refine L_rgJ hE lay_ok h 1 (fun j6 : Bool => [(77, fB j6)]) (fun j6 => []) (fun j6 h => ?_) (fun j6 h => ?_) <;> cbv
 · refine L_if hE h (fun h => ?_) (fun h => ?_) <;> cbv
   · refine L_if hE h (fun h => ?_) (fun h => ?_) <;> cbv
     · cases h; (cbv; (try simp only [e_rnil hR]); repeat' (first | exact trivial | exact rfl | exact Or.inr trivial | apply And.intro))
     cases h; (cbv; (try simp only [e_rnil hR]); repeat' (first | exact trivial | exact rfl | exact Or.inr trivial | apply And.intro))
   cases h; (cbv; (try simp only [e_rnil hR]); repeat' (first | exact trivial | exact rfl | exact Or.inr trivial | apply And.intro))
 refine L_if hE h (fun h => ?_) (fun h => ?_) <;> cbv
 · exact And.left (hQ _ _ _ rfl rfl (by cases h; subst hR; rfl))
 exact And.left (hQ _ _ _ rfl rfl (by cases h; subst hR; rfl))
theorem r15_Great_w {N : Nat} {p0 : Node} {p1 : Int} {r : Bool} (h : r15_Great_g N p0 p1 = some r) : FunS Tryz.prog 65 [.agg [fI .i64 p0.kind, fI .u64 (p0.set.a.toNat : Int), fI .u64 (p0.set.b.toNat : Int), fI .u64 (p0.set.c.toNat : Int), fI .u64 (p0.set.d.toNat : Int), .t (.slc (rw _ nodeRow p0.kids)), fI .i64 p0.min, fI .i64 p0.max], fI .i64 p1] (r15_Great_s rw) r := by
 refine fun_w lay_ok Tryz.call65 Tryz.func65 rfl ?_
 intro A W E Q R hE hR hf hQ; rcases W with ⟨ar, cm, conj, cv, sl, sc, ct, sa, ss, ll, _, _, _, _, mi, mx, _, _, _⟩
 rw [← hR]
 unfold r15_Great_g at h
 rw [q_cm hE] at h
 cbv
 refine L_call hE hR h (fun _ e => r15_cost_w e) (by subst hR; rfl) rfl fun a1 h => ?_; cbv
 exact And.left (hQ _ _ _ rfl rfl (by cases h; subst hR; rfl))
theorem r22_Great_w {N : Nat} {p0 : GMatcher} {p1 : Int} {r : Bool} (h : r22_Great_g N p0 p1 = some r) : FunS Tryz.prog 45 [.agg [fS p0.Name, fI .i64 p0.Op, fS p0.Value], fI .i64 p1] (r22_Great_s rw) r := by
 refine fun_w lay_ok Tryz.call45 Tryz.func45 rfl ?_
 intro A W E Q R hE hR hf hQ; rcases W with ⟨ar, cm, conj, cv, sl, sc, ct, sa, ss, ll, _, _, _, _, mi, mx, _, _, _⟩
 unfold r22_Great_g at h
 rw [q_cm hE, q_sl hE] at h
 cbv
 refine L_if hE h (fun h => ?_) (fun h => ?_) <;> cbv
 · refine L_rgJ hE lay_ok h 1 (fun j1 : Bool => [(4, fB j1)]) (fun j1 => []) (fun j1 h => ?_) (fun j1 h => ?_) <;> cbv
   · refine L_if hE h (fun h => ?_) (fun h => ?_) <;> cbv
     · cases h; (cbv; (try simp only [e_rnil hR]); repeat' (first | exact trivial | exact rfl | exact Or.inr trivial | apply And.intro))
     cases h; (cbv; (try simp only [e_rnil hR]); repeat' (first | exact trivial | exact rfl | exact Or.inr trivial | apply And.intro))
   exact And.left (hQ _ _ _ rfl rfl (by cases h; subst hR; rfl))
 refine L_rgJ hE lay_ok h 1 (fun j2 : Bool => [(33, fB j2)]) (fun j2 => []) (fun j2 h => ?_) (fun j2 h => ?_) <;> cbv
 · refine L_if hE h (fun h => ?_) (fun h => ?_) <;> cbv
   · cases h; (cbv; (try simp only [e_rnil hR]); repeat' (first | exact trivial | exact rfl | exact Or.inr trivial | apply And.intro))
   refine L_if hE h (fun h => ?_) (fun h => ?_) <;> cbv
   · cases h; (cbv; (try simp only [e_rnil hR]); repeat' (first | exact trivial | exact rfl | exact Or.inr trivial | apply And.intro))
   cases h; (cbv; (try simp only [e_rnil hR]); repeat' (first | exact trivial | exact rfl | exact Or.inr trivial | apply And.intro))
 refine L_if hE h (fun h => ?_) (fun h => ?_) <;> cbv
 · exact And.left (hQ _ _ _ rfl rfl (by cases h; subst hR; rfl))
 refine L_call hE hR h (fun _ e => r13_Parse_w e) rfl rfl fun a1 h => ?_; cbv
 refine L_rgJ hE lay_ok h 3 (fun j3 : Bool => [(4, fB j3)]) (fun j3 => []) (fun j3 h => ?_) (fun j3 h => ?_) <;> cbv
 · refine L_if hE h (fun h => ?_) (fun h => ?_) <;> cbv
   · refine L_call hE hR h (fun _ e => r15_Great_w e) (by subst hR; rfl) rfl fun a2 h => ?_; cbv
     cases h; (cbv; (try simp only [e_rnil hR]); repeat' (first | exact trivial | exact rfl | exact Or.inr trivial | apply And.intro))
   cases h; (cbv; (try simp only [e_rnil hR]); repeat' (first | exact trivial | exact rfl | exact Or.inr trivial | apply And.intro))
 exact And.left (hQ _ _ _ rfl rfl (by cases h; subst hR; rfl))
theorem r23_Great_w {N : Nat} {p0 : List GMatcher} {p1 : List GLabel} {r : Bool} (h : r23_Great_g N p0 p1 = some r) : FunS Tryz.prog 17 [.t (.slc (rw _ cMatcher p0)), .t (.slc (rw _ cLabel p1))] (r23_Great_s rw) r := by
 refine fun_w lay_ok Tryz.call17 Tryz.func17 rfl ?_
 intro A W E Q R hE hR hf hQ; rcases W with ⟨ar, cm, conj, cv, sl, sc, ct, sa, ss, ll, _, _, _, _, mi, mx, _, _, _⟩
 rw [← hR]
 unfold r23_Great_g at h
 rw [q_cm hE, q_ll hE, ← hR] at h
 cbv
 refine L_rgJ hE lay_ok h 0 (fun j1 : Bool => [(14, fB j1)]) (fun j1 => []) (fun j1 h => ?_) (fun j1 h => ?_) <;> cbv
 · refine L_if hE h (fun h => ?_) (fun h => ?_) <;> cbv
   · cases h; (cbv; (try simp only [e_rnil hR]); repeat' (first | exact trivial | exact rfl | exact Or.inr trivial | apply And.intro))
   cases h; (cbv; (try simp only [e_rnil hR]); repeat' (first | exact trivial | exact rfl | exact Or.inr trivial | apply And.intro))
 refine L_if hE h (fun h => ?_) (fun h => ?_) <;> cbv
 · exact And.left (hQ _ _ _ rfl rfl (by cases h; subst hR; rfl))
 refine L_for hE lay_ok 0 (fun g : Int × Nat => [(5, fI .i64 g.1)]) (fun g => []) (fun g => r23_Great_l1 N p0 p1 g.2 g.1 = some r) (fun g => g.2) (_, N) h ?_ ?_
 · (cbv; (try simp only [e_rnil hR]); repeat' (first | exact trivial | exact rfl | exact Or.inr trivial | apply And.intro))
 rintro ⟨v1, m1⟩ h Q1 hN1 hT1 hX1
 have h : r23_Great_l1 N p0 p1 m1 v1 = some r := h
 cases m1 with
 | zero => exact nomatch (show (none : Option _) = some _ from h)
 | succ m1 =>
 rw [r23_Great_l1] at h
 rw [q_cm hE, q_ll hE, ← hR] at h
 cbv
 refine L_if hE h (fun h => ?_) (fun h => ?_) <;> cbv
 · refine L_row hE hR h fun r2 h => ?_; cbv
   refine L_call hE hR h (fun _ e => r22_Great_w e) rfl rfl fun a3 h => ?_; cbv
   refine L_if hE h (fun h => ?_) (fun h => ?_) <;> cbv
   · refine hT1 _ ?_
     exact And.left (hQ _ _ _ rfl rfl (by cases h; subst hR; rfl))
   refine L_for hE lay_ok 0 (fun g : Int × Nat => [(6, fI .i64 g.1)]) (fun g => []) (fun g => r23_Great_l2 N (r23_Great_l1 N p0 p1 m1) p0 p1 v1 g.2 g.1 = some r) (fun g => g.2) (_, N) h ?_ ?_
   · (cbv; (try simp only [e_rnil hR]); repeat' (first | exact trivial | exact rfl | exact Or.inr trivial | apply And.intro))
   rintro ⟨v4, m2⟩ h Q2 hN2 hT2 hX2
   have h : r23_Great_l2 N (r23_Great_l1 N p0 p1 m1) p0 p1 v1 m2 v4 = some r := h
   cases m2 with
   | zero => exact nomatch (show (none : Option _) = some _ from h)
   | succ m2 =>
   rw [r23_Great_l2] at h
   rw [q_ar hE, q_cm hE, q_sl hE, q_sc hE, q_ll hE, ← hR] at h
   cbv
   refine L_if hE h (fun h => ?_) (fun h => ?_) <;> cbv
   · refine L_whole hE lay_ok (by kernel_rfl) (by kernel_rfl) ?_; cbv
     refine L_row hE hR h fun r5 h => ?_; cbv
     refine L_row hE hR h fun r6 h => ?_; cbv
     refine L_if hE h (fun h => ?_) (fun h => ?_) <;> cbv
     · refine L_if hE h (fun h => ?_) (fun h => ?_) <;> cbv
       · refine L_if hE h (fun h => ?_) (fun h => ?_) <;> cbv
         · refine L_row hE hR h fun r7 h => ?_; cbv
           refine L_if hE h (fun h => ?_) (fun h => ?_) <;> cbv
           · refine L_if hE h (fun h => ?_) (fun h => ?_) <;> cbv
             · refine L_if hE h (fun h => ?_) (fun h => ?_) <;> cbv
               · refine L_if hE h (fun h => ?_) (fun h => ?_) <;> cbv
                 · refine L_row hE hR h fun r8 h => ?_; cbv
                   refine L_if hE h (fun h => ?_) (fun h => ?_) <;> cbv
                   · refine L_if hE h (fun h => ?_) (fun h => ?_) <;> cbv
                     · refine L_if hE h (fun h => ?_) (fun h => ?_) <;> cbv
                       · refine L_if hE h (fun h => ?_) (fun h => ?_) <;> cbv
                         · refine L_pcall hE hR h (fun _ e => r22_Great_w e) rfl rfl fun a9 h => ?_; cbv
                           refine L_if hE h (fun h => ?_) (fun h => ?_) <;> cbv
                           · refine L_if hE h (fun h => ?_) (fun h => ?_) <;> cbv
                             · refine hT2 _ ?_
                               refine hT1 _ ?_
                               exact And.left (hQ _ _ _ rfl rfl (by cases h; subst hR; rfl))
                             refine hN2 _ (_, m2) [] h (Nat.lt_succ_self _) trivial ?_; (cbv; (try simp only [e_rnil hR]); repeat' (first | exact trivial | exact rfl | exact Or.inr trivial | apply And.intro))
                           exact nomatch h
                         exact nomatch h
                       exact nomatch h
                     exact nomatch h
                   exact nomatch h
                 exact nomatch h
               exact nomatch h
             exact nomatch h
           exact nomatch h
         exact nomatch h
       exact nomatch h
     refine L_if hE h (fun h => ?_) (fun h => ?_) <;> cbv
     · exact nomatch h
     refine L_if hE h (fun h => ?_) (fun h => ?_) <;> cbv
     · exact nomatch h
     refine L_if hE h (fun h => ?_) (fun h => ?_) <;> cbv
     · exact nomatch h
     refine L_if hE h (fun h => ?_) (fun h => ?_) <;> cbv
     · exact nomatch h
     refine L_if hE h (fun h => ?_) (fun h => ?_) <;> cbv
     · exact nomatch h
     refine L_if hE h (fun h => ?_) (fun h => ?_) <;> cbv
     · exact nomatch h
     refine L_if hE h (fun h => ?_) (fun h => ?_) <;> cbv
     · exact nomatch h
     refine L_if hE h (fun h => ?_) (fun h => ?_) <;> cbv
     · exact nomatch h
     refine L_if hE h (fun h => ?_) (fun h => ?_) <;> cbv
     · exact nomatch h
     refine L_if hE h (fun h => ?_) (fun h => ?_) <;> cbv
     · exact nomatch h
     refine L_if hE h (fun h => ?_) (fun h => ?_) <;> cbv
     · exact nomatch h
     refine L_f hE ?_; cbv
     refine hN2 _ (_, m2) [] h (Nat.lt_succ_self _) trivial ?_; (cbv; (try simp only [e_rnil hR]); repeat' (first | exact trivial | exact rfl | exact Or.inr trivial | apply And.intro))
   refine hX2 _ _ ?_; cbv
   refine hN1 _ (_, m1) [] h (Nat.lt_succ_self _) trivial ?_; (cbv; (try simp only [e_rnil hR]); repeat' (first | exact trivial | exact rfl | exact Or.inr trivial | apply And.intro))
 refine hX1 _ _ ?_; cbv
 exact And.left (hQ _ _ _ rfl rfl (by cases h; subst hR; rfl))
theorem r27_Great_w {N : Nat} {p0 : GCaveat} {r : Bool} (h : r27_Great_g N p0 = some r) : FunS Tryz.prog 6 [.agg [fI .i64 p0.Kind, fI .i64 p0.Num, .t (.slc (rw _ cS p0.Words)), .t (.slc (rw _ cMatcher p0.Sel))]] (r27_Great_s rw) r := by
 refine fun_w lay_ok Tryz.call6 Tryz.func6 rfl ?_
 intro A W E Q R hE hR hf hQ; rcases W with ⟨ar, cm, conj, cv, sl, sc, ct, sa, ss, ll, _, _, _, _, mi, mx, _, _, _⟩
 rw [← hR]
 unfold r27_Great_g at h
 rw [q_cm hE, q_ll hE, ← hR] at h
 cbv
 refine L_rgJ hE lay_ok h 1 (fun j1 : Bool => [(12, fB j1)]) (fun j1 => []) (fun j1 h => ?_) (fun j1 h => ?_) <;> cbv
 · refine L_if hE h (fun h => ?_) (fun h => ?_) <;> cbv
   · cases h; (cbv; (try simp only [e_rnil hR]); repeat' (first | exact trivial | exact rfl | exact Or.inr trivial | apply And.intro))
   refine L_call hE hR h (fun _ e => r23_Great_w e) (by subst hR; rfl) rfl fun a1 h => ?_; cbv
   cases h; (cbv; (try simp only [e_rnil hR]); repeat' (first | exact trivial | exact rfl | exact Or.inr trivial | apply And.intro))
 refine L_if hE h (fun h => ?_) (fun h => ?_) <;> cbv
 · exact And.left (hQ _ _ _ rfl rfl (by cases h; subst hR; rfl))
 refine L_for hE lay_ok 1 (fun g : Int × Nat => [(2, fB false), (3, fI .i64 g.1)]) (fun g => []) (fun g => r27_Great_l1 p0 g.2 g.1 = some r) (fun g => g.2) (_, N) h ?_ ?_
 · (cbv; (try simp only [e_rnil hR]); repeat' (first | exact trivial | exact rfl | exact Or.inr trivial | apply And.intro))
 rintro ⟨v2, m1⟩ h Q1 hN1 hT1 hX1
 have h : r27_Great_l1 p0 m1 v2 = some r := h
 cases m1 with
 | zero => exact nomatch (show (none : Option _) = some _ from h)
 | succ m1 =>
 rw [r27_Great_l1] at h
 rw [q_ar hE, q_cm hE, q_sl hE, q_ll hE, ← hR] at h
 cbv
 refine L_if hE h (fun h => ?_) (fun h => ?_) <;> cbv
 · refine L_row hE hR h fun r3 h => ?_; cbv
   refine L_if hE h (fun h => ?_) (fun h => ?_) <;> cbv
   · refine hT1 _ ?_
     exact And.left (hQ _ _ _ rfl rfl (by cases h; subst hR; rfl))
   refine hN1 _ (_, m1) [] h (Nat.lt_succ_self _) trivial ?_; (cbv; (try simp only [e_rnil hR]); repeat' (first | exact trivial | exact rfl | exact Or.inr trivial | apply And.intro))
 refine hX1 _ _ ?_; cbv
 exact And.left (hQ _ _ _ rfl rfl (by cases h; subst hR; rfl))
end Gn
end Go.Proofs.YtagppjldegblhaaGreatDoor
namespace Go.Proofs.YtagppjldegblhaaGreatDoor
open Go Go.RowKit Go.ChangeShapes Go.WideShapes
theorem addr_off (b o j : Nat) : (⟨b, o, none⟩ : Addr).add j = ⟨b, o + j, none⟩ := by simp [Addr.add]
section
variable {α : Type}
def RowsAt (n : Nat) (R : α → List Value → Prop) (G : Nat → Prop) (w : World) (A : Option Addr) (xs : List α) : Prop :=
 0 < xs.length → ∃ b o, A = some ⟨b, o, none⟩ ∧ G b ∧ ∀ (k : Nat) (h : k < xs.length), ∃ cs, R xs[k] cs ∧ ∀ j u, cs[j]? = some u → w.cell? ⟨b, o + k * n + j, none⟩ = some u
theorem rows_nil {n : Nat} {R : α → List Value → Prop} {G : Nat → Prop} {w : World} {A : Option Addr} : RowsAt n R G w A ([] : List α) := fun h => absurd h (by simp)
end
section
variable {H : Type} {enc : TypeId × Value → H} {P : Program} {W : World} {sp : Nat → Bool} {held : Bool}
theorem cell_place {a : Addr} {u : Value} (h : W.cell? a = some u) : a = ⟨a.block, a.off, none⟩ ∧ a.block < W.heap.size := by
 unfold World.cell? at h
 cases hb : W.heap[a.block]? with
 | none => rw [hb] at h; cases h
 | some o =>
   rw [hb] at h
   refine ⟨?_, (Array.getElem?_eq_some_iff.1 hb).1⟩
   cases o with
   | cells c t fr =>
     dsimp only at h
     cases hs : a.spot with
     | none => cases a; simp at hs; subst hs; rfl
     | some x => rw [hs] at h; simp at h
   | _ => cases h
theorem rows_open {α : Type} {T e : TypeId} {n : Nat} {R : α → List Value → Prop} (hT : P.underlying T = some (.slice e)) (hn : P.cellsOf e = n) (hn0 : 0 < n)
 (hR : ∀ (fuel : Nat) (cs : List Value) (x : DataW H × List MemPlace), DataW.trod enc P W 0 sp held fuel e cs = some x → ∃ a, R a cs ∧ cs.length = n) {fuel : Nat} {v : Value} {x : DataW H × List MemPlace}
 (h : DataW.trod enc P W 0 sp held fuel T [v] = some x) : ∃ (A : Option Addr) (xs : List α) (cap : Nat), v = .slice A xs.length cap ∧ Fits A xs.length cap ∧ xs.length ≤ maxLen ∧ RowsAt n R (fun b => b < W.heap.size) W A xs := by
 rcases DataW.trod_slice hT h with ⟨e5, -⟩ | ⟨a, len, cap, elems, rest, m, rfl, e5, -, -, hlc, hcm, hel, hat, -, -⟩
 · injection e5 with e5 _
   exact ⟨none, [], 0, e5, Fits.none_, Nat.zero_le _, rows_nil⟩
 · injection e5 with e5 _
   rw [hn] at hat
   have key : ∀ i, i ≤ len → ∃ (xs : List α), xs.length = i ∧ ∀ (k : Nat) (hk : k < xs.length), ∃ cs, R xs[k] cs ∧ cs.length = n ∧ ∀ j u, cs[j]? = some u → W.cell? (a.add (k * n + j)) = some u := by
    intro i
    induction i with
    | zero => intro _; exact ⟨[], rfl, fun k hk => absurd hk (by simp)⟩
    | succ i ih =>
      intro hi
      obtain ⟨xs, hl, hc⟩ := ih (by omega)
      have h1 := hat i (by omega)
      rw [List.getElem?_eq_getElem (by omega)] at h1
      obtain ⟨cs', h2, h3⟩ := Option.bind_eq_some_iff.1 h1
      obtain ⟨y, hy, hyl⟩ := hR m cs' _ h3
      obtain ⟨_, _, h4⟩ := World.cells?_some h2
      refine ⟨xs ++ [y], by rw [List.length_append, hl]; rfl, fun k hk => ?_⟩
      rcases Nat.lt_or_ge k xs.length with hlt | hge
      · obtain ⟨cs, h5, h6, h7⟩ := hc k hlt
        refine ⟨cs, ?_, h6, h7⟩
        rw [List.getElem_append_left hlt]
        exact h5
      · have hkl : k < xs.length + 1 := by simpa using hk
        obtain rfl : k = xs.length := by omega
        refine ⟨cs', ?_, hyl, fun j u hj => ?_⟩
        · rw [List.getElem_append_right (Nat.le_refl _)]
          simpa using hy
        · have hj' : j < n := by rw [← hyl]; exact (List.getElem?_eq_some_iff.1 hj).1
          have h8 := h4 j hj'
          rw [hj, Go.Deep.add_add, ← hl] at h8
          exact h8
   obtain ⟨xs, hl, hc⟩ := key len (Nat.le_refl _)
   subst hl
   refine ⟨some a, xs, cap, e5, ⟨hlc, fun h => by cases h⟩, Nat.le_trans hlc hcm, fun hpos => ?_⟩
   obtain ⟨cs0, _, hl0, h0⟩ := hc 0 hpos
   have h1 := h0 0 _ (List.getElem?_eq_getElem (by omega))
   have ha0 : a.add (0 * n + 0) = a := by unfold Addr.add; simp
   rw [ha0] at h1
   obtain ⟨h2, h3⟩ := cell_place h1
   refine ⟨a.block, a.off, congrArg some h2, h3, fun k hk => ?_⟩
   obtain ⟨cs, h4, _, h5⟩ := hc k hk
   refine ⟨cs, h4, fun j u hj => ?_⟩
   have h6 := h5 j u hj
   rw [h2, addr_off, ← Nat.add_assoc] at h6
   exact h6
end
end Go.Proofs.YtagppjldegblhaaGreatDoor
namespace Go.Proofs.YtagppjldegblhaaGreatDoor
open Go Go.RowKit Go.ChangeShapes Go.WideShapes
open Ab
namespace Op2
theorem crep_nil {G : Nat → Prop} {w : World} : CRep G w [] [] := ⟨rfl, fun j t u h => by simp at h⟩
theorem agg_rep {cx : Cx} {w : World} {ts : List T} {cs : Array Value} (h : CRep cx.G w ts cs.toList) : VRep cx w (.agg (ts.map V.t)) (.agg cs) := by
 refine .agg _ _ (by simpa using h.1) (fun c hc => by obtain ⟨t, -, rfl⟩ := List.mem_map.1 hc; rfl) (fun i c u h1 h2 => ?_)
 rw [List.getElem?_map] at h1
 obtain ⟨t, ht, rfl⟩ := Option.map_eq_some_iff.1 h1
 exact .t _ _ (h.2 i t u ht (by simpa using h2))
theorem slc_of {α : Type} {n : Nat} {row : α → List T} {R : α → List Value → Prop} {G : Nat → Prop} {w : World} {xs : List α} {A : Option Addr} {cap : Nat} (hn : ∀ x ∈ xs, (row x).length = n) (hR : ∀ x cs, x ∈ xs → R x cs → CRep G w (row x) cs)
 (hf : Fits A xs.length cap) (h : RowsAt n R G w A xs) : TRep G w (.slc (xs.map row)) (.slice A xs.length cap) := by
 by_cases hpos : 0 < xs.length
 · obtain ⟨b, o, rfl, hG, hk⟩ := h hpos
   have key : ∀ i j t, ((xs.map row)[i]?).bind (fun r => r[j]?) = some t → ∃ u, w.cell? ⟨b, o + (i * n + j), none⟩ = some u ∧ TRep G w t u := fun i j t ht => by
    rw [List.getElem?_map] at ht
    cases hx : xs[i]? with
    | none => rw [hx] at ht; cases ht
    | some x =>
      rw [hx] at ht
      simp only [Option.map_some, Option.bind_some] at ht
      obtain ⟨hi, rfl⟩ := List.getElem?_eq_some_iff.1 hx
      obtain ⟨cs, h1, h2⟩ := hk i hi
      obtain ⟨g1, g2⟩ := hR _ cs (List.getElem_mem hi) h1
      have hj : j < cs.length := by have := (List.getElem?_eq_some_iff.1 ht).1; omega
      refine ⟨cs[j], ?_, g2 j t _ ht (List.getElem?_eq_getElem hj)⟩
      have := h2 j _ (List.getElem?_eq_getElem hj)
      rwa [show o + i * n + j = o + (i * n + j) by omega] at this
   have hlen : (xs.map row).length = xs.length := List.length_map ..
   rw [← hlen]
   refine .slc _ _ b o n cap (fun i j => (w.cell? ⟨b, o + (i * n + j), none⟩).getD undef) (by rw [hlen]; exact hf.1) (fun e => by cases e) (fun _ => ⟨rfl, hG⟩) (fun r hr => ?_) (fun i j t ht => ?_) (fun i j t ht => ?_)
   · obtain ⟨x, hx, rfl⟩ := List.mem_map.1 hr
     exact hn x hx
   · obtain ⟨u, h1, -⟩ := key i j t ht
     rw [h1]
     rfl
   · obtain ⟨u, h1, h2⟩ := key i j t ht
     rw [h1]
     exact h2
 · obtain rfl : xs = [] := List.eq_nil_of_length_eq_zero (by omega)
   exact .slc [] A 0 0 0 cap (fun _ _ => undef) (Nat.zero_le _) hf.2 (fun h => absurd rfl h) (fun r h => by simp at h) (fun i j t h => by simp at h) (fun i j t h => by simp at h)
section
variable {H : Type} {enc : TypeId × Value → H} {P : Program} {W : World} {sp : Nat → Bool} {held : Bool} {fuel : Nat} {x : DataW H × List MemPlace}
abbrev GW (W : World) : Nat → Prop := fun b => b < W.heap.size
theorem o_int {t : TypeId} {k : IntKind} {cs : List Value} (ht : P.underlying t = some (.int k)) (h : DataW.trod enc P W 0 sp held fuel t cs = some x) : ∃ a : Int, CRep (GW W) W [.flat (.int k a)] cs := by
 obtain ⟨n, rfl, -, -⟩ := DataW.trod_int ht h
 exact ⟨n, crep_cons (.flat _ rfl) crep_nil⟩
theorem o_str {t : TypeId} {cs : List Value} (ht : P.underlying t = some .string) (h : DataW.trod enc P W 0 sp held fuel t cs = some x) : ∃ a : ByteArray, CRep (GW W) W [.flat (.string a)] cs := by
 obtain ⟨n, rfl, -, -⟩ := DataW.trod_string ht h
 exact ⟨n, crep_cons (.flat _ rfl) crep_nil⟩
theorem o_slc {α : Type} {t e : TypeId} {n : Nat} {c : α → List T} {cs : List Value} (hT : P.underlying t = some (.slice e)) (hn : P.cellsOf e = n) (hn0 : 0 < n) (hc : ∀ a, (c a).length = n)
 (hR : ∀ (fuel : Nat) (cs : List Value) (x : DataW H × List MemPlace), DataW.trod enc P W 0 sp held fuel e cs = some x → ∃ a, CRep (GW W) W (c a) cs) (hl : cs.length = 1)
 (h : DataW.trod enc P W 0 sp held fuel t cs = some x) : ∃ l : List α, CRep (GW W) W [.slc (l.map c)] cs ∧ l.length ≤ maxLen := by
 match cs, hl with
 | [v], _ =>
 obtain ⟨A, xs, cap, rfl, hf, hm, hr⟩ := rows_open (α := α) (R := fun a cs => CRep (GW W) W (c a) cs) hT hn hn0 (fun fuel cs x h => by
  obtain ⟨a, ha⟩ := hR fuel cs x h
  exact ⟨a, ha, by rw [ha.1, hc]⟩) h
 exact ⟨xs, crep_cons (slc_of (fun a _ => hc a) (fun a cs _ h => h) hf hr) crep_nil, hm⟩
theorem part_end {G : Nat → Prop} {cs : List Value} {o s : Nat} {ts : List T} (hl : cs.length = o + s) (h : CRep G W ts ((cs.drop o).take s)) : CRep G W ts (cs.drop o) := by
 rwa [List.take_of_length_le (by rw [List.length_drop]; omega)] at h
end
theorem v_agg {cx : Cx} {w : World} {ts : List T} {cs : Array Value} (h : CRep cx.G w ts cs.toList) : VRep cx w (.agg (ts.map V.t)) (.agg cs) := agg_rep h
end Op2
end Go.Proofs.YtagppjldegblhaaGreatDoor
