/- Trees that may be; what is read may be; brackets and bars around: plain. -/
import Derived.Test.YtampjnpnekekiaaGreatDoorK120
import Derived.Sort.Walk0
import Derived.Test.YtampjnpnekekiaaGreatDoorK118
namespace Go.Proofs.YtampjnpnekekiaaGreatDoor
set_option linter.unusedSimpArgs false
open Go
namespace Rx
def timesB (lo hi : Int) : Bool := if lo < 0 || lo > 16 || hi > 16 || hi < -1 || hi == 0 then false else hi == -1 || hi ≥ lo
def topB (kind : Int) (S : CSet) (many : Nat) (mn mx : Int) : Bool :=
  (kind == 1 || kind == 2 || kind == 3 || kind == 4) && (kind == 1 || decide (S = CSet.empty)) && (kind == 4 || mn == 0 && mx == 0) &&
  (if kind == 1 then many == 0 else if kind == 2 then many != 1 else if kind == 3 then decide (many > 1) else many == 1 && timesB mn mx)
mutual
def right : Node → Bool
  | .mk kind S kids mn mx => topB kind S kids.length mn mx && rights kind kids
def rights (kind : Int) : List Node → Bool
  | [] => true
  | n :: r => (right n && !(n.kind == kind && kind != 4)) && rights kind r
end
variable {l : List UInt8}
end Rx
end Go.Proofs.YtampjnpnekekiaaGreatDoor
namespace Go.Proofs.YtampjnpnekekiaaGreatDoor
open Go
namespace Mt
def ofL (l : List UInt8) : ByteArray := ⟨l.toArray⟩
theorem ofL_list (l : List UInt8) : (ofL l).data.toList = l := by simp [ofL]
theorem ofL_self (s : ByteArray) : ofL s.data.toList = s := by cases s; simp [ofL]
structure M where
  name : ByteArray
  op : Int
  val : ByteArray
def hits (n : Node) (l : List UInt8) : Bool := Rx.right n && Mx.sp l n (Mx.single 0) l.length
def right (m : M) : Int :=
  if Nm.labelB m.name.data.toList = false then 4 else if m.op < 1 ∨ 4 < m.op then 7 else if m.op ≤ 2 then (if 1024 < m.val.size then 3 else 0) else (Rx.parse m.val.data.toList).2.1
def test (m : M) (v : ByteArray) : Bool :=
  if right m ≠ 0 then false else if m.op = 1 then decide (v.data.toList = m.val.data.toList) else if m.op = 2 then !decide (v.data.toList = m.val.data.toList)
  else if m.op = 3 then hits (Rx.parse m.val.data.toList).1 v.data.toList else !hits (Rx.parse m.val.data.toList).1 v.data.toList
structure L where
  name : ByteArray
  val : ByteArray
def get : List L → ByteArray → ByteArray
  | [], _ => ⟨#[]⟩
  | x :: r, n => if x.name.data.toList = n.data.toList then x.val else get r n
def holds (m : M) (l : List L) : Bool := test m (get l m.name)
def cmpL (a b : List UInt8) : Int := if Op.bytesLess a b = true then -1 else if a = b then 0 else 1
def cmpI (a b : Int) : Int := if a < b then -1 else if a = b then 0 else 1
def cmp (a b : M) : Int := if cmpL a.name.data.toList b.name.data.toList ≠ 0 then cmpL a.name.data.toList b.name.data.toList else if cmpI a.op b.op ≠ 0 then cmpI a.op b.op else cmpL a.val.data.toList b.val.data.toList
def sgn (o : Int) : List UInt8 := if o = 1 then [61] else if o = 2 then [33, 61] else if o = 3 then [61, 126] else if o = 4 then [33, 126] else [63]
def opAt (l : List UInt8) (k : Nat) : Nat :=
  if Qu.bt l k = 61 then (if Qu.bt l (k + 1) = 126 then 3 else 1) else if Qu.bt l k = 33 then (if Qu.bt l (k + 1) = 61 then 2 else if Qu.bt l (k + 1) = 126 then 4 else 0) else 0
def opBad (l : List UInt8) (k : Nat) : Nat × Nat := if k = l.length then (1, k) else if Qu.bt l k = 33 ∧ k + 1 = l.length then (1, k + 1) else (2, k)
inductive Got where
  | ok (m : M) (p : Nat)
  | bad (e : Int) (p : Nat)
def take (l : List UInt8) (at_ : Int) : Got :=
  if at_ < 0 ∨ (l.length : Int) < at_ then .bad 7 0
  else if at_ = l.length then .bad 1 at_.toNat
  else if Nm.run Nm.signB true (l.drop at_.toNat) < 1 ∨ 32 < Nm.run Nm.signB true (l.drop at_.toNat) then .bad 4 at_.toNat
  else if opAt l (at_.toNat + Nm.run Nm.signB true (l.drop at_.toNat)) = 0 then .bad (opBad l (at_.toNat + Nm.run Nm.signB true (l.drop at_.toNat))).1 (opBad l (at_.toNat + Nm.run Nm.signB true (l.drop at_.toNat))).2
  else match Qu.read l (at_.toNat + Nm.run Nm.signB true (l.drop at_.toNat) + (sgn (opAt l (at_.toNat + Nm.run Nm.signB true (l.drop at_.toNat)))).length : Nat) with
    | .bad e p => .bad e p
    | .ok v p =>
      if right ⟨ofL ((l.drop at_.toNat).take (Nm.run Nm.signB true (l.drop at_.toNat))), opAt l (at_.toNat + Nm.run Nm.signB true (l.drop at_.toNat)), ofL v⟩ ≠ 0
      then .bad (right ⟨ofL ((l.drop at_.toNat).take (Nm.run Nm.signB true (l.drop at_.toNat))), opAt l (at_.toNat + Nm.run Nm.signB true (l.drop at_.toNat)), ofL v⟩) (at_.toNat + Nm.run Nm.signB true (l.drop at_.toNat) + (sgn (opAt l (at_.toNat + Nm.run Nm.signB true (l.drop at_.toNat)))).length)
      else .ok ⟨ofL ((l.drop at_.toNat).take (Nm.run Nm.signB true (l.drop at_.toNat))), opAt l (at_.toNat + Nm.run Nm.signB true (l.drop at_.toNat)), ofL v⟩ p
end Mt
end Go.Proofs.YtampjnpnekekiaaGreatDoor
namespace Go.Proofs.YtampjnpnekekiaaGreatDoor
open Go
set_option linter.unusedVariables false
set_option linter.unusedSimpArgs false
set_option maxRecDepth 10000
open Sh Gn
namespace Pl
def toM (g : GMatcher) : Mt.M := ⟨g.Name, g.Op, g.Value⟩
theorem lab_eq {s : ByteArray} : lab s = Nm.labelB s.data.toList := by
  unfold lab Nm.labelB Nm.allB runAt
  rw [size_list, List.drop_zero, Bool.eq_iff_iff]
  simp [and_assoc]
theorem mright_p {N : Nat} (hN : 1000 ≤ N) (g : GMatcher) : matcher_Right_g N g = some (Mt.right (toM g)) := by
  unfold matcher_Right_g Mt.right toM
  rw [label_p hN, lab_eq]
  simp only [Option.bind_some, cond_not, cm_lss, cm_gtr, cm_eql, cm_neq, cond_dec, ite_or, sl_eq]
  cases Nm.labelB g.Name.data.toList with
  | false => rfl
  | true =>
    simp only [_root_.cond_true, Bool.true_eq_false, if_false]
    by_cases c1 : g.Op < 1 ∨ 4 < g.Op
    · simp only [c1, if_true]
    · simp only [c1, if_false]
      by_cases c2 : g.Op ≤ 2
      · have c2' : g.Op = 1 ∨ g.Op = 2 := by omega
        simp only [c2, c2', if_true]
        by_cases c3 : 1024 < g.Value.size
        · have c3' : (1024 : Int) < (g.Value.size : Int) := by omega
          simp only [c3, c3', if_true]
        · have c3' : ¬ (1024 : Int) < (g.Value.size : Int) := by omega
          simp only [c3, c3', if_false]
      · have c2' : ¬ (g.Op = 1 ∨ g.Op = 2) := by omega
        simp only [c2, c2', if_false]
        unfold regex_Parse_g
        simp only [Option.bind_some]
        by_cases c3 : (Rx.parse g.Value.data.toList).2.1 = 0
        · simp only [c3, if_true]
        · simp only [c3, if_false]
theorem rright_p {N : Nat} (hN : 1000 ≤ N) (g : GMatcher) : r22_Right_g N g = some (Mt.right (toM g)) := by
  unfold r22_Right_g Mt.right toM
  rw [rlabel_p hN, lab_eq]
  simp only [Option.bind_some, cond_not, cm_lss, cm_gtr, cm_eql, cm_neq, cond_dec, ite_or, ite_and, sl_eq]
  cases Nm.labelB g.Name.data.toList with
  | false => rfl
  | true =>
    simp only [_root_.cond_true, Bool.true_eq_false, if_false]
    by_cases c1 : g.Op < 1 ∨ 4 < g.Op
    · simp only [c1, if_true]
    · simp only [c1, if_false]
      by_cases c2 : g.Op ≤ 2
      · have c2' : ¬ 2 < g.Op := by omega
        have c2'' : g.Op < 3 := by omega
        simp only [c2, c2', c2'', if_true, if_false, true_and]
        by_cases c3 : 1024 < g.Value.size
        · have c3' : (1024 : Int) < (g.Value.size : Int) := by omega
          simp only [c3, c3', if_true]
        · have c3' : ¬ (1024 : Int) < (g.Value.size : Int) := by omega
          simp only [c3, c3', if_false]
      · have c2' : 2 < g.Op := by omega
        have c2'' : ¬ g.Op < 3 := by omega
        simp only [c2, c2', c2'', if_true, if_false, false_and, parse_p hN, Option.bind_some]
theorem msign_p (o : Int) : matcher_sign_g o = some (Mt.ofL (Mt.sgn o)) := by
  unfold matcher_sign_g Mt.sgn
  simp only [cm_eql, cond_dec]
  by_cases c1 : o = 1
  · simp only [c1, if_true]; rfl
  by_cases c2 : o = 2
  · simp only [c1, c2, if_true, if_false]; rfl
  by_cases c3 : o = 3
  · simp only [c1, c2, c3, if_true, if_false]; rfl
  by_cases c4 : o = 4
  · simp only [c1, c2, c3, c4, if_true, if_false]; rfl
  · simp only [c1, c2, c3, c4, if_false]; rfl
theorem rsgn_p (o : Int) : r22_Sign_g o = some (Mt.ofL (Mt.sgn o)) := msign_p o
theorem ba_eq {s t : ByteArray} : s = t ↔ s.data.toList = t.data.toList :=
  ⟨fun h => by rw [h], fun h => ByteArray.ext (Array.ext' h)⟩
theorem prefix_p (t : ByteArray) (p : List UInt8) : strings_HasPrefix_g t (Mt.ofL p) = some (decide (t.data.toList.take p.length = p)) := by
  have hz : (Mt.ofL p).size = p.length := by rw [← size_list, Mt.ofL_list]
  unfold strings_HasPrefix_g internal_stringslite_HasPrefix_g
  rw [cm_geq, cond_dec, sl_eq, sl_eq, sc_eql, hz]
  by_cases c : p.length ≤ t.size
  · have e := ss_list (s := t) (i := 0) (j := p.length) (by omega) c
    have e : (ss t 0 (p.length : Int)).data.toList = (t.data.toList.drop 0).take (p.length - 0) := e
    have hin : ssinB t 0 (p.length : Int) = true := ssin_nat (s := t) (i := 0) (j := p.length) (by omega) c
    rw [if_pos (by omega), hin, _root_.cond_true, Option.bind_some, Option.bind_some]
    congr 1
    refine decide_eq_decide.2 ?_
    rw [ba_eq, e, Mt.ofL_list]; rfl
  · rw [if_neg (by omega)]
    refine congrArg some (decide_eq_false fun h => ?_).symm
    have := congrArg List.length h
    rw [List.length_take, size_list] at this
    omega
theorem take1 (l : List UInt8) (a : UInt8) (ha : a.toNat ≠ 0) : l.take 1 = [a] ↔ Qu.bt l 0 = a.toNat := by
  cases l with
  | nil => simp [Qu.bt]; omega
  | cons x r => simp [Qu.bt, UInt8.toNat_inj]
theorem take2 (l : List UInt8) (a b : UInt8) (ha : a.toNat ≠ 0) (hb : b.toNat ≠ 0) : l.take 2 = [a, b] ↔ Qu.bt l 0 = a.toNat ∧ Qu.bt l 1 = b.toNat := by
  match l with
  | [] => simp [Qu.bt]; omega
  | [x] => simp [Qu.bt]; omega
  | x :: y :: r => simp [Qu.bt, UInt8.toNat_inj]
section
variable {s : ByteArray} {i : Nat}
theorem op_p {N : Nat} (hN : 20 ≤ N) (hs : s.size ≤ 100000) (hi : i ≤ s.size) : matcher_op_g N s i = some (if Mt.opAt s.data.toList i = 0 then (0, ⟨((Mt.opBad s.data.toList i).1 : Int), ((Mt.opBad s.data.toList i).2 : Int)⟩) else ((Mt.opAt s.data.toList i : Int), ⟨0, 0⟩)) := by
  obtain ⟨m, rfl⟩ : ∃ m, N = m + 5 := ⟨N - 5, by omega⟩
  obtain ⟨t, ht⟩ : ∃ t, t = ss s (i : Int) (sl s) := ⟨_, rfl⟩
  have hb : ∀ j, Qu.bt t.data.toList j = Qu.bt s.data.toList (i + j) := fun j => by rw [ht, ss_end hi, Qu.bt_drop]
  have hz : t.size = s.size - i := by rw [ht]; exact size_end hi
  have l0 : ∀ m, matcher_op_l1 s i (m + 1) 0 = (strings_HasPrefix_g t (Mt.ofL [61, 126])).bind fun a => cond a (some (3, ⟨0, 0⟩)) (matcher_op_l1 s i m 1) := fun m => by rw [ht]; rfl
  have l1 : ∀ m, matcher_op_l1 s i (m + 1) 1 = (strings_HasPrefix_g t (Mt.ofL [33, 126])).bind fun a => cond a (some (4, ⟨0, 0⟩)) (matcher_op_l1 s i m 2) := fun m => by rw [ht]; rfl
  have l2 : ∀ m, matcher_op_l1 s i (m + 1) 2 = (strings_HasPrefix_g t (Mt.ofL [33, 61])).bind fun a => cond a (some (2, ⟨0, 0⟩)) (matcher_op_l1 s i m 3) := fun m => by rw [ht]; rfl
  have l3 : ∀ m, matcher_op_l1 s i (m + 1) 3 = (strings_HasPrefix_g t (Mt.ofL [61])).bind fun a => cond a (some (1, ⟨0, 0⟩)) (matcher_op_l1 s i m 4) := fun m => by rw [ht]; rfl
  have l4 : ∀ m, matcher_op_l1 s i (m + 1) 4 = cond (sc .eql t ByteArray.empty) (some (0, ⟨1, (i : Int)⟩)) (cond (sc .eql t (ByteArray.mk #[33])) (some (0, ⟨1, ar .add .i64 i 1⟩)) (some (0, ⟨2, (i : Int)⟩))) := fun m => by rw [ht]; rfl
  have a2 : ∀ a b : UInt8, a.toNat ≠ 0 → b.toNat ≠ 0 → strings_HasPrefix_g t (Mt.ofL [a, b]) = some (decide (Qu.bt s.data.toList i = a.toNat ∧ Qu.bt s.data.toList (i + 1) = b.toNat)) := fun a b ha hb' => by
    rw [prefix_p]
    have := take2 t.data.toList a b ha hb'
    rw [hb, hb] at this
    exact congrArg some (decide_eq_decide.2 this)
  have a1 : ∀ a : UInt8, a.toNat ≠ 0 → strings_HasPrefix_g t (Mt.ofL [a]) = some (decide (Qu.bt s.data.toList i = a.toNat)) := fun a ha => by
    rw [prefix_p]
    have := take1 t.data.toList a ha
    rw [hb] at this
    exact congrArg some (decide_eq_decide.2 this)
  unfold matcher_op_g
  rw [ssin_end hi, _root_.cond_true, l0, l1, l2, l3, l4, a2 61 126 (by decide) (by decide), a2 33 126 (by decide) (by decide), a2 33 61 (by decide) (by decide), a1 61 (by decide), inc1 (by omega)]
  simp only [Option.bind_some, cond_dec, sc_eql, show (61 : UInt8).toNat = 61 from rfl, show (33 : UInt8).toNat = 33 from rfl, show (126 : UInt8).toNat = 126 from rfl]
  unfold Mt.opAt
  by_cases c1 : Qu.bt s.data.toList i = 61
  · by_cases c2 : Qu.bt s.data.toList (i + 1) = 126
    · simp [c1, c2]
    · simp [c1, c2]
  · by_cases c3 : Qu.bt s.data.toList i = 33
    · by_cases c4 : Qu.bt s.data.toList (i + 1) = 61
      · simp [c3, c4]
      · by_cases c5 : Qu.bt s.data.toList (i + 1) = 126
        · simp [c3, c5]
        · have hlt : i < s.size := Nat.lt_of_not_le fun g => by
            have : Qu.bt s.data.toList i = 0 := by unfold Qu.bt; rw [List.getElem?_eq_none (by rw [size_list]; omega)]
            omega
          have hne : ¬ t = ByteArray.empty := fun e => by rw [e] at hz; have : ByteArray.empty.size = 0 := rfl; omega
          have hone : t = ByteArray.mk #[33] ↔ i + 1 = s.size := by
            constructor
            · intro e
              have : (ByteArray.mk #[33]).size = 1 := rfl
              rw [e] at hz; omega
            · intro e
              rw [ba_eq]
              have hl : t.data.toList.length = 1 := by rw [size_list]; omega
              obtain ⟨x, hx⟩ := List.length_eq_one_iff.1 hl
              have h0 := hb 0
              rw [hx] at h0
              have h0 : x.toNat = 33 := by rw [Nat.add_zero, c3] at h0; exact h0
              rw [hx]
              show [x] = [33]
              congr 1
              exact UInt8.toNat_inj.1 h0
          have hlen : ¬ i = s.data.toList.length := by rw [size_list]; omega
          unfold Mt.opBad
          simp only [c3, c4, c5, hne, if_false, hlen, if_true, true_and, false_and, and_false]
          by_cases c6 : i + 1 = s.size
          · have c6' : i + 1 = s.data.toList.length := by rw [size_list]; exact c6
            simp [hone.2 c6, c6']
          · have c6' : ¬ i + 1 = s.data.toList.length := by rw [size_list]; exact c6
            have : ¬ t = ByteArray.mk #[33] := fun e => c6 (hone.1 e)
            simp [this, c6]
    · unfold Mt.opBad
      simp only [c1, c3, if_false, false_and, if_true]
      have hone : ¬ t = ByteArray.mk #[33] := fun e => by
        have := hb 0
        rw [e] at this
        exact c3 this.symm
      simp only [hone, if_false]
      by_cases c4 : i = s.size
      · have : t = ByteArray.empty := by
          rw [ba_eq]
          have hl : t.data.toList.length = 0 := by rw [size_list]; omega
          rw [List.length_eq_zero_iff.1 hl]; rfl
        rw [if_pos this, if_pos (by rw [size_list]; exact c4)]; rfl
      · have : ¬ t = ByteArray.empty := fun e => by rw [e] at hz; have : ByteArray.empty.size = 0 := rfl; omega
        rw [if_neg this, if_neg (by rw [size_list]; exact c4)]; rfl
end
end Pl
end Go.Proofs.YtampjnpnekekiaaGreatDoor
namespace Go.Proofs.YtampjnpnekekiaaGreatDoor
open Go
set_option linter.unusedVariables false
set_option linter.unusedSimpArgs false
set_option maxRecDepth 10000
open Sh Gn
namespace Pl
def takeV (g : Mt.Got) : GMatcher × Int × GFault := match g with | .ok m p => (⟨m.name, m.op, m.val⟩, (p : Int), ⟨0, 0⟩) | .bad e p => (⟨ByteArray.empty, 0, ByteArray.empty⟩, 0, ⟨e, (p : Int)⟩)
theorem run_take (g : Int → Bool → Bool) : ∀ (f : Bool) (l : List UInt8), Nm.run g f (l.take (Nm.run g f l)) = Nm.run g f l
  | f, [] => by simp [Nm.run]
  | f, c :: r => by
    by_cases h : g c.toNat f = true
    · have e : Nm.run g f (c :: r) = Nm.run g false r + 1 := by rw [Nm.run, if_pos h]
      rw [e, List.take_succ_cons, Nm.run, if_pos h, run_take g false r]
    · have e : Nm.run g f (c :: r) = 0 := by rw [Nm.run, if_neg h]
      rw [e]; rfl
section
variable {s : ByteArray}
theorem cut_p {N i : Nat} (hN : 200000 ≤ N) (hs : s.size ≤ 100000) (hi : i ≤ s.size) :
    name_Cut_g N s i = some (Mt.ofL ((s.data.toList.drop i).take (Nm.run Nm.signB true (s.data.toList.drop i))), ((i + Nm.run Nm.signB true (s.data.toList.drop i) : Nat) : Int)) := by
  have hz := size_end hi
  have hl := ss_end hi
  have hr := Nm.run_le Nm.signB true (s.data.toList.drop i)
  rw [List.length_drop, size_list] at hr
  unfold name_Cut_g
  rw [cm_lss, cm_gtr, cond_dec, sl_eq, if_neg (by omega), decide_eq_false (by omega)]
  simp only [Option.bind_some, cond_false]
  rw [← sl_eq, ssin_end hi, _root_.cond_true]
  have hr' : runAt (ss s (i : Int) (sl s)) true 0 = Nm.run Nm.signB true (s.data.toList.drop i) := by unfold runAt; rw [hl, List.drop_zero]
  have key := cut_from (p0 := s) (p1 := (i : Int)) rfl hr' N 0 (by omega) (by omega) (by rw [show ((0 : Nat) == 0) = true from rfl, hr']; omega)
  rw [show ((0 : Nat) : Int) = 0 from rfl] at key
  rw [key]
  generalize Nm.run Nm.signB true (s.data.toList.drop i) = R at *
  by_cases c : R = s.size - i
  · rw [if_pos (by omega)]
    congr 2
    · rw [← Mt.ofL_self (ss s (i : Int) (sl s)), hl, List.take_of_length_le (by rw [List.length_drop, size_list]; omega)]
    · rw [sl_eq]; omega
  · rw [if_neg (by omega), ar_add (by omega) (by omega)]
    congr 2
    rw [← Mt.ofL_self (ss (ss s (i : Int) (sl s)) 0 (R : Int))]
    have := ss_list (s := ss s (i : Int) (sl s)) (i := 0) (j := R) (by omega) (by omega)
    have this : (ss (ss s (i : Int) (sl s)) 0 (R : Int)).data.toList = (((ss s (i : Int) (sl s)).data.toList).drop 0).take (R - 0) := this
    rw [this, hl]; rfl
theorem lab_run (l : List UInt8) : Nm.labelB (l.take (Nm.run Nm.signB true l)) = decide (¬ (Nm.run Nm.signB true l < 1 ∨ 32 < Nm.run Nm.signB true l)) := by
  have h := run_take Nm.signB true l
  have hl := Nm.run_le Nm.signB true l
  unfold Nm.labelB Nm.allB
  rw [h, List.length_take, Nat.min_eq_left hl, Bool.eq_iff_iff]
  simp
  omega
theorem opAt_le (l : List UInt8) (i : Nat) : Mt.opAt l i ≤ 4 := by unfold Mt.opAt; (repeat' split) <;> omega
theorem sgn_size (o : Int) : (Mt.ofL (Mt.sgn o)).size = (Mt.sgn o).length ∧ (Mt.sgn o).length ≤ 2 := by
  refine ⟨by rw [← size_list, Mt.ofL_list], ?_⟩
  unfold Mt.sgn; (repeat' split) <;> decide
theorem opBad_ne (l : List UInt8) (i : Nat) : (Mt.opBad l i).1 ≠ 0 := by unfold Mt.opBad; (repeat' split) <;> (intro h; cases h)
theorem body_ne (l : List UInt8) : ∀ (f : Nat) (out : List UInt8) (i e p : Nat), Qu.body l f out i = .bad e p → e ≠ 0
  | 0, out, i, e, p, h => by unfold Qu.body at h; cases h; decide
  | f + 1, out, i, e, p, h => by
    unfold Qu.body at h
    split at h
    · split at h
      · cases h
      · cases hu : Qu.un l i with
        | ok t n => rw [hu] at h; exact body_ne l f _ _ e p h
        | bad e' p' =>
          rw [hu] at h
          cases h
          unfold Qu.un at hu
          split at hu
          · cases hE : Qu.esc l i with
            | ok b n => rw [hE] at hu; cases hu
            | bad e'' =>
              rw [hE] at hu
              cases hu
              rcases esc_bad hE with rfl | rfl <;> decide
          · split at hu
            · cases hu
            · cases hu; decide
    · cases h; decide
theorem read_ne {l : List UInt8} {a : Int} {e p : Nat} (h : Qu.read l a = .bad e p) : e ≠ 0 := by
  unfold Qu.read at h
  split at h
  · cases h; decide
  · split at h
    · cases h; decide
    · split at h
      · cases h; decide
      · exact body_ne _ _ _ _ _ _ h
theorem mtake_p {N : Nat} (hN : 200000 ≤ N) (hs : s.size ≤ 90000) (p : Int) : matcher_Take_g N s p = some (takeV (Mt.take s.data.toList p)) := by
  unfold matcher_Take_g Mt.take
  simp only [cm_lss, cm_gtr, cm_eql, cm_neq, cond_not, cond_dec, sl_eq, ite_or, Option.bind_some, size_list]
  by_cases c1 : p < 0 ∨ (s.size : Int) < p
  · simp only [c1, if_true]; rfl
  obtain ⟨i, rfl⟩ : ∃ i : Nat, p = i := ⟨p.toNat, by omega⟩
  simp only [c1, if_false, Int.toNat_natCast]
  by_cases c2 : (i : Int) = s.size
  · simp only [c2, if_true]
    have : i = s.size := by omega
    subst this; rfl
  simp only [c2, if_false]
  have hr := Nm.run_le Nm.signB true (s.data.toList.drop i)
  rw [List.length_drop, size_list] at hr
  rw [cut_p hN (by omega) (by omega), Option.bind_some, label_p (by omega), lab_eq, Mt.ofL_list, lab_run]
  simp only [Option.bind_some]
  obtain ⟨l, hl⟩ : ∃ l, l = s.data.toList.drop i := ⟨_, rfl⟩
  rw [← hl] at hr ⊢
  obtain ⟨R, hR⟩ : ∃ R, R = Nm.run Nm.signB true l := ⟨_, rfl⟩
  rw [← hR] at hr ⊢
  by_cases c3 : R < 1 ∨ 32 < R
  · simp only [c3, not_true_eq_false, decide_false, cond_false, if_true]; rfl
  simp only [c3, not_false_eq_true, decide_true, _root_.cond_true, if_false]
  rw [op_p (by omega) (by omega) (by omega), Option.bind_some]
  obtain ⟨o, ho⟩ : ∃ o, o = Mt.opAt s.data.toList (i + R) := ⟨_, rfl⟩
  rw [← ho]
  have ho4 : o ≤ 4 := by rw [ho]; exact opAt_le _ _
  by_cases c4 : o = 0
  · have hne := opBad_ne s.data.toList (i + R)
    have hne' : ¬ ((Mt.opBad s.data.toList (i + R)).1 : Int) = 0 := by omega
    simp only [c4, if_true, hne', if_false]; rfl
  simp only [c4, if_false, if_true, msign_p, Option.bind_some]
  have hz := sgn_size (o : Int)
  rw [hz.1, ar_add (by omega) (by omega), qread_p hN (by omega), Option.bind_some]
  have ea : ((i + R : Nat) : Int) + ((Mt.sgn (o : Int)).length : Int) = ((i + R + (Mt.sgn (o : Int)).length : Nat) : Int) := by omega
  rw [ea]
  cases hq : Qu.read s.data.toList ((i + R + (Mt.sgn (o : Int)).length : Nat) : Int) with
  | bad e q =>
    have he : ¬ (e : Int) = 0 := by
      have := read_ne hq
      omega
    simp only [gotV, he, if_false]; rfl
  | ok v q =>
    simp only [gotV, if_true, mright_p (N := N) (by omega), Option.bind_some, toM]
    by_cases c5 : Mt.right ⟨Mt.ofL (l.take R), (o : Int), ⟨v.toArray⟩⟩ = 0
    · have c5' : Mt.right ⟨Mt.ofL (l.take R), (o : Int), Mt.ofL v⟩ = 0 := c5
      simp only [c5, c5', if_true, ne_eq, not_true_eq_false, if_false]; rfl
    · have c5' : ¬ Mt.right ⟨Mt.ofL (l.take R), (o : Int), Mt.ofL v⟩ = 0 := c5
      simp only [c5, c5', ne_eq, not_false_eq_true, if_true, if_false]; rfl
theorem rsigns_from {i : Nat} (hs : s.size ≤ 100000) (hi : i ≤ s.size) : ∀ (m k : Nat), i + k ≤ s.size → s.size < i + k + m → r09_Signs_l1 s i m k = some ((k + runAt s (k == 0) (i + k) : Nat) : Int) := by
  intro m
  induction m with
  | zero => intro k h1 h2; omega
  | succ m ih =>
    intro k h1 h2
    unfold r09_Signs_l1
    have ea : ar .add .i64 (i : Int) (k : Int) = ((i + k : Nat) : Int) := by rw [ar_add (by omega) (by omega)]; omega
    rw [ea, cm_lss, sl_eq, cond_dec]
    by_cases c : i + k < s.size
    · have e0 : (cm .eql (k : Int) 0) = (k == 0) := by rw [cm_eql]; cases k <;> simp; omega
      have e1 := inc1 (show k ≤ 100000000 by omega)
      have eb : sa s ((i + k : Nat) : Int) = (s[i + k].toNat : Int) := by
        show ((s.data.getD _ 0).toNat : Int) = _
        rw [Int.toNat_natCast, Array.getD_eq_getD_getElem?, Array.getElem?_eq_getElem c]; rfl
      rw [if_pos (by omega), sin_in c, _root_.cond_true, rsign_p, e0, e1, eb, runAt_in c]
      cases g : Nm.signB (s[i + k].toNat) (k == 0) with
      | false => rfl
      | true =>
        simp only [Option.bind_some, _root_.cond_true, if_true]
        rw [ih (k + 1) (by omega) (by omega)]
        have e : (k + 1 == 0) = false := rfl
        rw [e, show i + (k + 1) = i + k + 1 by omega]
        congr 1; omega
    · rw [if_neg (by omega), runAt_end c]; rfl
theorem rsigns_p {N i : Nat} (hN : 200000 ≤ N) (hs : s.size ≤ 100000) (hi : i ≤ s.size) : r09_Signs_g N s i = some (Nm.run Nm.signB true (s.data.toList.drop i) : Int) := by
  unfold r09_Signs_g
  have := rsigns_from hs hi N 0 (by omega) (by omega)
  rw [show ((0 : Nat) : Int) = 0 from rfl] at this
  rw [this]
  show some ((0 + runAt s true (i + 0) : Nat) : Int) = _
  rw [Nat.zero_add]; rfl
theorem ris_p {i : Nat} {b : Nat} (hb : 0 < b) (hs : s.size ≤ 100000) : r22_is_g s i b = some (decide (Qu.bt s.data.toList i = b)) := by
  unfold r22_is_g
  rw [cm_lss, sl_eq, cond_dec, bind_self]
  by_cases c : i < s.size
  · rw [if_pos (by omega), sin_in c, _root_.cond_true, cm_eql, sa_bt]
    exact congrArg some (decide_eq_decide.2 (by omega))
  · rw [if_neg (by omega)]
    have : Qu.bt s.data.toList i = 0 := by unfold Qu.bt; rw [List.getElem?_eq_none (by rw [size_list]; omega)]
    rw [this, decide_eq_false (by omega)]
theorem rop_p {i : Nat} (hs : s.size ≤ 100000) (hi : i ≤ s.size) : r22_Op_g s i = some (Mt.opAt s.data.toList i : Int) := by
  have e : ∀ b : Nat, 0 < b → r22_is_g s ((i : Nat) : Int) (b : Int) = some (decide (Qu.bt s.data.toList i = b)) := fun b hb => ris_p hb hs
  have e' : ∀ b : Nat, 0 < b → r22_is_g s ((i + 1 : Nat) : Int) (b : Int) = some (decide (Qu.bt s.data.toList (i + 1) = b)) := fun b hb => ris_p hb hs
  unfold r22_Op_g Mt.opAt
  rw [inc1 (by omega), show r22_is_g s i 61 = _ from e 61 (by decide), show r22_is_g s i 33 = _ from e 33 (by decide), show r22_is_g s ((i + 1 : Nat) : Int) 61 = _ from e' 61 (by decide), show r22_is_g s ((i + 1 : Nat) : Int) 126 = _ from e' 126 (by decide)]
  simp only [Option.bind_some, cond_dec, ite_and]
  by_cases c1 : Qu.bt s.data.toList i = 61
  · by_cases c2 : Qu.bt s.data.toList (i + 1) = 126
    · simp [c1, c2]
    · simp [c1, c2]
  · by_cases c3 : Qu.bt s.data.toList i = 33
    · by_cases c4 : Qu.bt s.data.toList (i + 1) = 61
      · simp [c3, c4]
      · by_cases c5 : Qu.bt s.data.toList (i + 1) = 126
        · simp [c3, c5]
        · simp [c3, c4, c5]
    · simp [c1, c3]
theorem rtake_p {N : Nat} (hN : 200000 ≤ N) (hs : s.size ≤ 90000) (p : Int) : r22_Take_g N s p = some (takeV (Mt.take s.data.toList p)) := by
  unfold r22_Take_g Mt.take
  simp only [cm_lss, cm_gtr, cm_eql, cm_neq, cond_not, cond_dec, sl_eq, ite_or, ite_to, ite_and, Option.bind_some, size_list, r22_bad_g]
  by_cases c1 : p < 0 ∨ (s.size : Int) < p
  · simp only [c1, if_true]; rfl
  obtain ⟨i, rfl⟩ : ∃ i : Nat, p = i := ⟨p.toNat, by omega⟩
  simp only [c1, if_false, Int.toNat_natCast]
  by_cases c2 : (i : Int) = s.size
  · simp only [c2, if_true]
    have : i = s.size := by omega
    subst this; rfl
  simp only [c2, if_false]
  have hr := Nm.run_le Nm.signB true (s.data.toList.drop i)
  rw [List.length_drop, size_list] at hr
  rw [rsigns_p hN (by omega) (by omega), Option.bind_some]
  obtain ⟨l, hl⟩ : ∃ l, l = s.data.toList.drop i := ⟨_, rfl⟩
  have hname : ∀ R, R ≤ s.size - i → ss s (i : Int) ((i + R : Nat) : Int) = Mt.ofL (l.take R) := fun R hR => by
    rw [← Mt.ofL_self (ss s (i : Int) ((i + R : Nat) : Int)), ss_list (by omega) (by omega), Nat.add_sub_cancel_left, hl]
  rw [← hl] at hr ⊢
  obtain ⟨R, hR⟩ : ∃ R, R = Nm.run Nm.signB true l := ⟨_, rfl⟩
  rw [← hR] at hr ⊢
  by_cases c3 : R < 1 ∨ 32 < R
  · have c3' : (R : Int) < 1 ∨ (32 : Int) < (R : Int) := by omega
    simp only [c3, c3', if_true]; rfl
  have c3' : ¬ ((R : Int) < 1 ∨ (32 : Int) < (R : Int)) := by omega
  have ea : ar .add .i64 (i : Int) (R : Int) = ((i + R : Nat) : Int) := by rw [ar_add (by omega) (by omega)]; omega
  have ea1 := inc1 (show i + R ≤ 100000000 by omega)
  have his : r22_is_g s ((i + R : Nat) : Int) 33 = some (decide (Qu.bt s.data.toList (i + R) = 33)) := ris_p (b := 33) (by decide) (by omega)
  simp only [c3, c3', if_false, ea, ea1, rop_p (s := s) (i := i + R) (by omega) (by omega), Option.bind_some, his, cond_dec, ite_and]
  obtain ⟨o, ho⟩ : ∃ o, o = Mt.opAt s.data.toList (i + R) := ⟨_, rfl⟩
  rw [← ho]
  have ho4 : o ≤ 4 := by rw [ho]; exact opAt_le _ _
  by_cases c4 : o = 0
  · have c4' : (o : Int) = 0 := by omega
    simp only [c4, Int.natCast_zero, true_and, if_true, Mt.opBad, size_list, ea1]
    by_cases c5 : i + R = s.size
    · have c5' : ((i + R : Nat) : Int) = (s.size : Int) := by omega
      simp only [c5, c5', if_true]; rfl
    have c5' : ¬ ((i + R : Nat) : Int) = (s.size : Int) := by omega
    by_cases c6 : Qu.bt s.data.toList (i + R) = 33 ∧ i + R + 1 = s.size
    · have c6' : Qu.bt s.data.toList (i + R) = 33 ∧ ((i + R + 1 : Nat) : Int) = (s.size : Int) := ⟨c6.1, by omega⟩
      rw [if_neg c5', if_pos c6', if_neg c5, if_pos c6]; rfl
    · have c6' : ¬ (Qu.bt s.data.toList (i + R) = 33 ∧ ((i + R + 1 : Nat) : Int) = (s.size : Int)) := fun h => c6 ⟨h.1, by omega⟩
      rw [if_neg c5', if_neg c6', if_neg c5, if_neg c6]; rfl
  have c4' : ¬ (o : Int) = 0 := by omega
  have hz := sgn_size (o : Int)
  simp only [c4, c4', false_and, if_false, rsgn_p, Option.bind_some, hz.1]
  rw [ar_add (by omega) (by omega), rread_p hN (by omega), Option.bind_some, hname R hr, ssin_nat (by omega) (by omega), _root_.cond_true]
  have eb : ((i + R : Nat) : Int) + ((Mt.sgn (o : Int)).length : Int) = ((i + R + (Mt.sgn (o : Int)).length : Nat) : Int) := by omega
  rw [eb]
  cases hq : Qu.read s.data.toList ((i + R + (Mt.sgn (o : Int)).length : Nat) : Int) with
  | bad e q =>
    have he : ¬ (e : Int) = 0 := by
      have := read_ne hq
      omega
    simp only [gotV, he, if_false]; rfl
  | ok v q =>
    simp only [gotV, if_true, rright_p (N := N) (by omega), Option.bind_some, toM]
    by_cases c5 : Mt.right ⟨Mt.ofL (l.take R), (o : Int), ⟨v.toArray⟩⟩ = 0
    · have c5' : Mt.right ⟨Mt.ofL (l.take R), (o : Int), Mt.ofL v⟩ = 0 := c5
      simp only [c5, c5', if_true, ne_eq, not_true_eq_false, if_false]; rfl
    · have c5' : ¬ Mt.right ⟨Mt.ofL (l.take R), (o : Int), Mt.ofL v⟩ = 0 := c5
      simp only [c5, c5', ne_eq, not_false_eq_true, if_true, if_false]; rfl
end
end Pl
end Go.Proofs.YtampjnpnekekiaaGreatDoor
namespace Go.Proofs.YtampjnpnekekiaaGreatDoor
open Go
set_option linter.unusedVariables false
set_option linter.unusedSimpArgs false
set_option maxRecDepth 100000
open Sh Gn
namespace Pl
theorem works_p : l22_works_g 200000 = some true := by decide +kernel
theorem conj3 {a b c : Bool} : conj [a, b, c] = (a && (b && c)) := by show (a && (b && (c && true))) = _; rw [Bool.and_true]
theorem conj2 {a b : Bool} : conj [a, b] = (a && b) := by show (a && (b && true)) = _; rw [Bool.and_true]
theorem eql_self (x : Int) : cm .eql x x = true := by rw [cm_eql]; exact decide_eq_true rfl
theorem seql_self (x : ByteArray) : sc .eql x x = true := by rw [sc_eql]; exact decide_eq_true rfl
theorem reads_p (s : ByteArray) (p : Int) : l22_MatcherReads_g 200000 s p = some true := by
  unfold l22_MatcherReads_g
  rw [works_p, cm_gtr, cond_dec, sl_eq]
  by_cases c : 300 < s.size
  · rw [if_pos (by omega)]; rfl
  · rw [if_neg (by omega), mtake_p (Nat.le_refl _) (by omega), rtake_p (Nat.le_refl _) (by omega)]
    simp only [Option.bind_some, conj3, conj2, eql_self, seql_self, Bool.and_self, _root_.cond_true]
end Pl
end Go.Proofs.YtampjnpnekekiaaGreatDoor
namespace Go.Proofs.YtampjnpnekekiaaGreatDoor
open Go Go.RowKit
set_option linter.unusedVariables false
set_option linter.unusedSimpArgs false
set_option maxRecDepth 100000
set_option maxHeartbeats 4000000
open Ab Sh
namespace Gn
theorem r13_join_w {N : Nat} {p0 : Int} {p1 : List Node} {r : Node} (h : r13_join_g N p0 p1 = some r) : FunS Tryz.prog 73 [fI .i64 p0, .t (.slc (rw _ nodeRow p1))] (r13_join_s rw) r := by
  refine fun_w lay_ok Tryz.call73 Tryz.func73 rfl ?_
  intro A W E Q R hE hR hf hQ; rcases W with ⟨ar, cm, conj, cv, sl, sc, ct, sa, ss, ll, _, _, _, _, mi, mx, _, _, _⟩
  rw [← hR]
  unfold r13_join_g at h
  skip
  cbv
  refine L_for hE lay_ok 1 (fun g : Int × (List Node) × Nat => [(5, .lst 1), (6, fI .i64 g.1)]) (fun g => [(1, .list 47 8 (R _ nodeRow g.2.1))]) (fun g => r13_join_l1 p0 p1 g.2.2 g.1 g.2.1 = some r) (fun g => g.2.2) (_, _, N) h ?_ ?_
  · (cbv; (try simp only [e_rnil hR]); repeat' (first | exact trivial | exact rfl | exact Or.inr trivial | apply And.intro))
  rintro ⟨v1, v2, m1⟩ h Q1 hN1 hT1 hX1
  have h : r13_join_l1 p0 p1 m1 v1 v2 = some r := h
  cases m1 with
  | zero => exact nomatch (show (none : Option _) = some _ from h)
  | succ m1 =>
  rw [r13_join_l1] at h
  rw [q_ar hE, q_cm hE, q_ll hE, ← hR] at h
  cbv
  refine L_if hE h (fun h => ?_) (fun h => ?_) <;> cbv
  · refine L_rowN hE hR h fun r3 h => ?_; cbv
    refine L_cdJ hE lay_ok h 2 (fun j2 : (List Node) => [(5, .lst 1)]) (fun j2 => [(1, .list 47 8 (R _ nodeRow j2))]) (fun j2 h => ?_) (fun j2 h => ?_) <;> cbv
    · refine L_if hE h (fun h => ?_) (fun h => ?_) <;> cbv
      · refine L_rowN hE hR h fun r4 h => ?_; cbv
        refine L_app hE hR h (hf _) nodeRow_len (by decide) fun l5 e h => ?_; cbv at e; rw [e]; clear e
        cases h; (cbv; (try simp only [e_rnil hR]); repeat' (first | exact trivial | exact rfl | exact Or.inr trivial | apply And.intro))
      refine L_rowN hE hR h fun r6 h => ?_; cbv
      refine L_lit hR (e := nodeRow) h (node_new hR) fun l7 e h => ?_; cbv at e; rw [e]; clear e
      refine L_app hE hR h (hf _) nodeRow_len (by decide) fun l8 e h => ?_; cbv at e; rw [e]; clear e
      cases h; (cbv; (try simp only [e_rnil hR]); repeat' (first | exact trivial | exact rfl | exact Or.inr trivial | apply And.intro))
    refine hN1 _ (_, _, m1) [] h (Nat.lt_succ_self _) trivial ?_; (cbv; (try simp only [e_rnil hR]); repeat' (first | exact trivial | exact rfl | exact Or.inr trivial | apply And.intro))
  refine hX1 _ _ ?_; cbv
  refine L_if hE h (fun h => ?_) (fun h => ?_) <;> cbv
  · refine L_rowN hE hR h fun r9 h => ?_; cbv
    refine L_rowN hE hR h fun r10 h => ?_; cbv
    exact And.left (hQ _ _ _ rfl rfl (by cases h; subst hR; rfl))
  exact And.left (hQ _ _ _ rfl rfl (by cases h; subst hR; rfl))
theorem r13_bad_w {p0 : Int} {p1 : Int} {r : Gr13_P} (h : r13_bad_g p0 p1 = some r) : FunS Tryz.prog 74 [fI .i64 p0, fI .i64 p1] (r13_bad_s rw) r := by
  refine fun_w lay_ok Tryz.call74 Tryz.func74 rfl ?_
  intro A W E Q R hE hR hf hQ; rcases W with ⟨ar, cm, conj, cv, sl, sc, ct, sa, ss, ll, _, _, _, _, mi, mx, _, _, _⟩
  unfold r13_bad_g at h
  skip
  cbv
  exact And.left (hQ _ _ _ rfl rfl (by cases h; subst hR; rfl))
theorem r13_other_w {p0 : ByteArray} {p1 : Int} {r : Gr13_P} (h : r13_other_g p0 p1 = some r) : FunS Tryz.prog 45 [fS p0, fI .i64 p1] (r13_other_s rw) r := by
  refine fun_w lay_ok Tryz.call45 Tryz.func45 rfl ?_
  intro A W E Q R hE hR hf hQ; rcases W with ⟨ar, cm, conj, cv, sl, sc, ct, sa, ss, ll, _, _, _, _, mi, mx, _, _, _⟩
  unfold r13_other_g at h
  rw [q_cm hE, q_sl hE] at h
  cbv
  refine L_if hE h (fun h => ?_) (fun h => ?_) <;> cbv
  · refine L_call hE hR h (fun _ e => r13_bad_w e) rfl rfl fun a1 h => ?_; cbv
    exact And.left (hQ _ _ _ rfl rfl (by cases h; subst hR; rfl))
  refine L_call hE hR h (fun _ e => r13_bad_w e) rfl rfl fun a2 h => ?_; cbv
  exact And.left (hQ _ _ _ rfl rfl (by cases h; subst hR; rfl))
theorem r13_is_w {p0 : ByteArray} {p1 : Int} {p2 : Int} {r : Bool} (h : r13_is_g p0 p1 p2 = some r) : FunS Tryz.prog 72 [fS p0, fI .i64 p1, fI .u8 p2] (r13_is_s rw) r := by
  refine fun_w lay_ok Tryz.call72 Tryz.func72 rfl ?_
  intro A W E Q R hE hR hf hQ; rcases W with ⟨ar, cm, conj, cv, sl, sc, ct, sa, ss, ll, _, _, _, _, mi, mx, _, _, _⟩
  unfold r13_is_g at h
  rw [q_cm hE, q_sl hE, q_sa hE] at h
  cbv
  refine L_rgJ hE lay_ok h 0 (fun j1 : Bool => [(6, fB j1)]) (fun j1 => []) (fun j1 h => ?_) (fun j1 h => ?_) <;> cbv
  · refine L_if hE h (fun h => ?_) (fun h => ?_) <;> cbv
    · refine L_sin hE h fun h => ?_
      cases h; (cbv; (try simp only [e_rnil hR]); repeat' (first | exact trivial | exact rfl | exact Or.inr trivial | apply And.intro))
    cases h; (cbv; (try simp only [e_rnil hR]); repeat' (first | exact trivial | exact rfl | exact Or.inr trivial | apply And.intro))
  exact And.left (hQ _ _ _ rfl rfl (by cases h; subst hR; rfl))
theorem r13_among_w {N : Nat} {p0 : Int} {p1 : ByteArray} {r : Bool} (h : r13_among_g N p0 p1 = some r) : FunS Tryz.prog 102 [fI .u8 p0, fS p1] (r13_among_s rw) r := by
  refine fun_w lay_ok Tryz.call102 Tryz.func102 rfl ?_
  intro A W E Q R hE hR hf hQ; rcases W with ⟨ar, cm, conj, cv, sl, sc, ct, sa, ss, ll, _, _, _, _, mi, mx, _, _, _⟩
  unfold r13_among_g at h
  skip
  cbv
  refine L_for hE lay_ok 0 (fun g : Int × Nat => [(4, fB false), (5, fI .i64 g.1)]) (fun g => []) (fun g => r13_among_l1 p0 p1 g.2 g.1 = some r) (fun g => g.2) (_, N) h ?_ ?_
  · (cbv; (try simp only [e_rnil hR]); repeat' (first | exact trivial | exact rfl | exact Or.inr trivial | apply And.intro))
  rintro ⟨v1, m1⟩ h Q1 hN1 hT1 hX1
  have h : r13_among_l1 p0 p1 m1 v1 = some r := h
  cases m1 with
  | zero => exact nomatch (show (none : Option _) = some _ from h)
  | succ m1 =>
  rw [r13_among_l1] at h
  rw [q_ar hE, q_cm hE, q_sl hE, q_sa hE] at h
  cbv
  refine L_if hE h (fun h => ?_) (fun h => ?_) <;> cbv
  · refine L_sin hE h fun h => ?_
    refine L_if hE h (fun h => ?_) (fun h => ?_) <;> cbv
    · refine hT1 _ ?_
      exact And.left (hQ _ _ _ rfl rfl (by cases h; subst hR; rfl))
    refine hN1 _ (_, m1) [] h (Nat.lt_succ_self _) trivial ?_; (cbv; (try simp only [e_rnil hR]); repeat' (first | exact trivial | exact rfl | exact Or.inr trivial | apply And.intro))
  refine hX1 _ _ ?_; cbv
  exact And.left (hQ _ _ _ rfl rfl (by cases h; subst hR; rfl))
end Gn
end Go.Proofs.YtampjnpnekekiaaGreatDoor
namespace Go.Proofs.YtampjnpnekekiaaGreatDoor
open Go Go.RowKit
set_option linter.unusedVariables false
set_option linter.unusedSimpArgs false
set_option maxRecDepth 100000
set_option maxHeartbeats 4000000
open Ab Sh
namespace Gn
theorem r13_Digits_w {r : CSet} (h : r13_Digits_g = some r) : FunS Tryz.prog 114 [] (r13_Digits_s rw) r := by
  refine fun_w lay_ok Tryz.call114 Tryz.func114 rfl ?_
  intro A W E Q R hE hR hf hQ; rcases W with ⟨ar, cm, conj, cv, sl, sc, ct, sa, ss, ll, _, _, _, _, mi, mx, _, _, _⟩
  unfold r13_Digits_g at h
  skip
  cbv
  refine L_call hE hR h (fun _ e => r12_Between_w e) rfl rfl fun a1 h => ?_; cbv
  exact And.left (hQ _ _ _ rfl rfl (by cases h; subst hR; rfl))
theorem r13_Words_w {r : CSet} (h : r13_Words_g = some r) : FunS Tryz.prog 115 [] (r13_Words_s rw) r := by
  refine fun_w lay_ok Tryz.call115 Tryz.func115 rfl ?_
  intro A W E Q R hE hR hf hQ; rcases W with ⟨ar, cm, conj, cv, sl, sc, ct, sa, ss, ll, _, _, _, _, mi, mx, _, _, _⟩
  unfold r13_Words_g at h
  skip
  cbv
  refine L_call hE hR h (fun _ e => r12_Between_w e) rfl rfl fun a1 h => ?_; cbv
  refine L_call hE hR h (fun _ e => r12_Between_w e) rfl rfl fun a2 h => ?_; cbv
  refine L_call hE hR h (fun _ e => r12_Or_w e) rfl rfl fun a3 h => ?_; cbv
  refine L_call hE hR h (fun _ e => r12_Between_w e) rfl rfl fun a4 h => ?_; cbv
  refine L_call hE hR h (fun _ e => r12_Or_w e) rfl rfl fun a5 h => ?_; cbv
  refine L_call hE hR h (fun _ e => r12_With_w e) rfl rfl fun a6 h => ?_; cbv
  exact And.left (hQ _ _ _ rfl rfl (by cases h; subst hR; rfl))
theorem r13_hex_w {p0 : Int} {r : Int} (h : r13_hex_g p0 = some r) : FunS Tryz.prog 116 [fI .u8 p0] (r13_hex_s rw) r := by
  refine fun_w lay_ok Tryz.call116 Tryz.func116 rfl ?_
  intro A W E Q R hE hR hf hQ; rcases W with ⟨ar, cm, conj, cv, sl, sc, ct, sa, ss, ll, _, _, _, _, mi, mx, _, _, _⟩
  unfold r13_hex_g at h
  rw [q_ar hE, q_cm hE, q_cv hE] at h
  cbv
  refine L_rgJ hE lay_ok h 0 (fun j1 : Bool => [(8, fB j1)]) (fun j1 => []) (fun j1 h => ?_) (fun j1 h => ?_) <;> cbv
  · refine L_if hE h (fun h => ?_) (fun h => ?_) <;> cbv
    · cases h; (cbv; (try simp only [e_rnil hR]); repeat' (first | exact trivial | exact rfl | exact Or.inr trivial | apply And.intro))
    cases h; (cbv; (try simp only [e_rnil hR]); repeat' (first | exact trivial | exact rfl | exact Or.inr trivial | apply And.intro))
  refine L_if hE h (fun h => ?_) (fun h => ?_) <;> cbv
  · exact And.left (hQ _ _ _ rfl rfl (by cases h; subst hR; rfl))
  refine L_rgJ hE lay_ok h 0 (fun j2 : Bool => [(17, fB j2)]) (fun j2 => []) (fun j2 h => ?_) (fun j2 h => ?_) <;> cbv
  · refine L_if hE h (fun h => ?_) (fun h => ?_) <;> cbv
    · cases h; (cbv; (try simp only [e_rnil hR]); repeat' (first | exact trivial | exact rfl | exact Or.inr trivial | apply And.intro))
    cases h; (cbv; (try simp only [e_rnil hR]); repeat' (first | exact trivial | exact rfl | exact Or.inr trivial | apply And.intro))
  refine L_if hE h (fun h => ?_) (fun h => ?_) <;> cbv
  · exact And.left (hQ _ _ _ rfl rfl (by cases h; subst hR; rfl))
  exact And.left (hQ _ _ _ rfl rfl (by cases h; subst hR; rfl))
theorem r13_escape_w {N : Nat} {p0 : ByteArray} {p1 : Int} {r : Gr13_P} (h : r13_escape_g N p0 p1 = some r) : FunS Tryz.prog 105 [fS p0, fI .i64 p1] (r13_escape_s rw) r := by
  refine fun_w lay_ok Tryz.call105 Tryz.func105 rfl ?_
  intro A W E Q R hE hR hf hQ; rcases W with ⟨ar, cm, conj, cv, sl, sc, ct, sa, ss, ll, _, _, _, _, mi, mx, _, _, _⟩
  unfold r13_escape_g at h
  rw [q_ar hE, q_cm hE, q_cv hE, q_sl hE, q_sa hE] at h
  cbv
  refine L_if hE h (fun h => ?_) (fun h => ?_) <;> cbv
  · refine L_call hE hR h (fun _ e => r13_bad_w e) rfl rfl fun a1 h => ?_; cbv
    exact And.left (hQ _ _ _ rfl rfl (by cases h; subst hR; rfl))
  refine L_sin hE h fun h => ?_
  refine L_if hE h (fun h => ?_) (fun h => ?_) <;> cbv
  · refine L_call hE hR h (fun _ e => r13_Digits_w e) rfl rfl fun a2 h => ?_; cbv
    exact And.left (hQ _ _ _ rfl rfl (by cases h; subst hR; rfl))
  refine L_if hE h (fun h => ?_) (fun h => ?_) <;> cbv
  · refine L_call hE hR h (fun _ e => r13_Words_w e) rfl rfl fun a3 h => ?_; cbv
    exact And.left (hQ _ _ _ rfl rfl (by cases h; subst hR; rfl))
  refine L_if hE h (fun h => ?_) (fun h => ?_) <;> cbv
  · refine L_for hE lay_ok 1 (fun g : Int × Int × Nat => [(6, fI .i64 g.1), (7, fI .i64 g.2.1)]) (fun g => []) (fun g => r13_escape_l1 p0 p1 g.2.2 g.1 g.2.1 = some r) (fun g => g.2.2) (_, _, N) h ?_ ?_
    · (cbv; (try simp only [e_rnil hR]); repeat' (first | exact trivial | exact rfl | exact Or.inr trivial | apply And.intro))
    rintro ⟨v4, v5, m1⟩ h Q1 hN1 hT1 hX1
    have h : r13_escape_l1 p0 p1 m1 v4 v5 = some r := h
    cases m1 with
    | zero => exact nomatch (show (none : Option _) = some _ from h)
    | succ m1 =>
    rw [r13_escape_l1] at h
    rw [q_ar hE, q_cm hE, q_sl hE, q_sa hE] at h
    cbv
    refine L_if hE h (fun h => ?_) (fun h => ?_) <;> cbv
    · refine L_if hE h (fun h => ?_) (fun h => ?_) <;> cbv
      · refine L_call hE hR h (fun _ e => r13_bad_w e) rfl rfl fun a6 h => ?_; cbv
        refine hT1 _ ?_
        exact And.left (hQ _ _ _ rfl rfl (by cases h; subst hR; rfl))
      refine L_sin hE h fun h => ?_
      refine L_call hE hR h (fun _ e => r13_hex_w e) rfl rfl fun a7 h => ?_; cbv
      refine L_if hE h (fun h => ?_) (fun h => ?_) <;> cbv
      · refine L_call hE hR h (fun _ e => r13_bad_w e) rfl rfl fun a8 h => ?_; cbv
        refine hT1 _ ?_
        exact And.left (hQ _ _ _ rfl rfl (by cases h; subst hR; rfl))
      refine L_sin hE h fun h => ?_
      refine L_call hE hR h (fun _ e => r13_hex_w e) rfl rfl fun a9 h => ?_; cbv
      refine hN1 _ (_, _, m1) [] h (Nat.lt_succ_self _) trivial ?_; (cbv; (try simp only [e_rnil hR]); repeat' (first | exact trivial | exact rfl | exact Or.inr trivial | apply And.intro))
    refine hX1 _ _ ?_; cbv
    refine L_call hE hR h (fun _ e => r12_Between_w e) rfl rfl fun a10 h => ?_; cbv
    exact And.left (hQ _ _ _ rfl rfl (by cases h; subst hR; rfl))
  refine L_call hE hR h (fun _ e => r13_among_w e) rfl rfl fun a11 h => ?_; cbv
  refine L_if hE h (fun h => ?_) (fun h => ?_) <;> cbv
  · refine L_call hE hR h (fun _ e => r12_Between_w e) rfl rfl fun a12 h => ?_; cbv
    exact And.left (hQ _ _ _ rfl rfl (by cases h; subst hR; rfl))
  refine L_call hE hR h (fun _ e => r13_bad_w e) rfl rfl fun a13 h => ?_; cbv
  exact And.left (hQ _ _ _ rfl rfl (by cases h; subst hR; rfl))
theorem r13_sign_w {N : Nat} {p0 : ByteArray} {p1 : Int} {r : Gr13_P} (h : r13_sign_g N p0 p1 = some r) : FunS Tryz.prog 121 [fS p0, fI .i64 p1] (r13_sign_s rw) r := by
  refine fun_w lay_ok Tryz.call121 Tryz.func121 rfl ?_
  intro A W E Q R hE hR hf hQ; rcases W with ⟨ar, cm, conj, cv, sl, sc, ct, sa, ss, ll, _, _, _, _, mi, mx, _, _, _⟩
  unfold r13_sign_g at h
  rw [q_ar hE, q_cm hE, q_cv hE, q_sl hE, q_sa hE] at h
  cbv
  refine L_rgJ hE lay_ok h 1 (fun j1 : Bool => [(14, fB j1)]) (fun j1 => []) (fun j1 h => ?_) (fun j1 h => ?_) <;> cbv
  · refine L_if hE h (fun h => ?_) (fun h => ?_) <;> cbv
    · cases h; (cbv; (try simp only [e_rnil hR]); repeat' (first | exact trivial | exact rfl | exact Or.inr trivial | apply And.intro))
    refine L_sin hE h fun h => ?_
    refine L_call hE hR h (fun _ e => r13_among_w e) rfl rfl fun a1 h => ?_; cbv
    cases h; (cbv; (try simp only [e_rnil hR]); repeat' (first | exact trivial | exact rfl | exact Or.inr trivial | apply And.intro))
  refine L_if hE h (fun h => ?_) (fun h => ?_) <;> cbv
  · refine L_call hE hR h (fun _ e => r13_other_w e) rfl rfl fun a2 h => ?_; cbv
    exact And.left (hQ _ _ _ rfl rfl (by cases h; subst hR; rfl))
  refine L_sin hE h fun h => ?_
  refine L_if hE h (fun h => ?_) (fun h => ?_) <;> cbv
  · refine L_call hE hR h (fun _ e => r13_escape_w e) rfl rfl fun a3 h => ?_; cbv
    exact And.left (hQ _ _ _ rfl rfl (by cases h; subst hR; rfl))
  refine L_tail hE lay_ok (by kernel_rfl) 12 (by kernel_rfl) ?_; cbv
  refine L_sin hE h fun h => ?_
  refine L_sin hE h fun h => ?_
  refine L_pcall hE hR h (fun _ e => r12_Between_w e) rfl rfl fun a4 h => ?_; cbv
  exact And.left (hQ _ _ _ rfl rfl (by cases h; subst hR; rfl))
end Gn
end Go.Proofs.YtampjnpnekekiaaGreatDoor
