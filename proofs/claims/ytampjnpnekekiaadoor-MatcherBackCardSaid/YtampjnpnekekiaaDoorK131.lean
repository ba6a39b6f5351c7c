/- Matchers: what may be one, what it asks, its text, and reading it: plain. -/
import Derived.Sort.Walk0
import Derived.Test.YtampjnpnekekiaaDoorK130
import Derived.Test.YtampjnpnekekiaaDoorK129
namespace Go.Proofs.YtampjnpnekekiaaDoor
open Go
namespace Mt
def ofL (l : List UInt8) : ByteArray := ⟨l.toArray⟩
theorem ofL_list (l : List UInt8) : (ofL l).data.toList = l := by simp [ofL]
theorem ofL_self (s : ByteArray) : ofL s.data.toList = s := by cases s; simp [ofL]
structure M where
  name : ByteArray
  op : Int
  val : ByteArray
def hits (n : Node) (l : List UInt8) : Bool := Rx.right n && Mx.sp l n (Mx.single 0) l.length
def right (m : M) : Int :=
  if Nm.labelB m.name.data.toList = false then 4 else if m.op < 1 ∨ 4 < m.op then 7 else if m.op ≤ 2 then (if 1024 < m.val.size then 3 else 0) else (Rx.parse m.val.data.toList).2.1
def test (m : M) (v : ByteArray) : Bool :=
  if right m ≠ 0 then false else if m.op = 1 then decide (v.data.toList = m.val.data.toList) else if m.op = 2 then !decide (v.data.toList = m.val.data.toList)
  else if m.op = 3 then hits (Rx.parse m.val.data.toList).1 v.data.toList else !hits (Rx.parse m.val.data.toList).1 v.data.toList
structure L where
  name : ByteArray
  val : ByteArray
def get : List L → ByteArray → ByteArray
  | [], _ => ⟨#[]⟩
  | x :: r, n => if x.name.data.toList = n.data.toList then x.val else get r n
def cmpL (a b : List UInt8) : Int := if Op.bytesLess a b = true then -1 else if a = b then 0 else 1
def cmpI (a b : Int) : Int := if a < b then -1 else if a = b then 0 else 1
def cmp (a b : M) : Int := if cmpL a.name.data.toList b.name.data.toList ≠ 0 then cmpL a.name.data.toList b.name.data.toList else if cmpI a.op b.op ≠ 0 then cmpI a.op b.op else cmpL a.val.data.toList b.val.data.toList
def sgn (o : Int) : List UInt8 := if o = 1 then [61] else if o = 2 then [33, 61] else if o = 3 then [61, 126] else if o = 4 then [33, 126] else [63]
def text (m : M) : List UInt8 := m.name.data.toList ++ sgn m.op ++ Qu.text m.val.data.toList
def opAt (l : List UInt8) (k : Nat) : Nat :=
  if Qu.bt l k = 61 then (if Qu.bt l (k + 1) = 126 then 3 else 1) else if Qu.bt l k = 33 then (if Qu.bt l (k + 1) = 61 then 2 else if Qu.bt l (k + 1) = 126 then 4 else 0) else 0
def opBad (l : List UInt8) (k : Nat) : Nat × Nat := if k = l.length then (1, k) else if Qu.bt l k = 33 ∧ k + 1 = l.length then (1, k + 1) else (2, k)
inductive Got where
  | ok (m : M) (p : Nat)
  | bad (e : Int) (p : Nat)
def take (l : List UInt8) (at_ : Int) : Got :=
  if at_ < 0 ∨ (l.length : Int) < at_ then .bad 7 0
  else if at_ = l.length then .bad 1 at_.toNat
  else if Nm.run Nm.signB true (l.drop at_.toNat) < 1 ∨ 32 < Nm.run Nm.signB true (l.drop at_.toNat) then .bad 4 at_.toNat
  else if opAt l (at_.toNat + Nm.run Nm.signB true (l.drop at_.toNat)) = 0 then .bad (opBad l (at_.toNat + Nm.run Nm.signB true (l.drop at_.toNat))).1 (opBad l (at_.toNat + Nm.run Nm.signB true (l.drop at_.toNat))).2
  else match Qu.read l (at_.toNat + Nm.run Nm.signB true (l.drop at_.toNat) + (sgn (opAt l (at_.toNat + Nm.run Nm.signB true (l.drop at_.toNat)))).length : Nat) with
    | .bad e p => .bad e p
    | .ok v p =>
      if right ⟨ofL ((l.drop at_.toNat).take (Nm.run Nm.signB true (l.drop at_.toNat))), opAt l (at_.toNat + Nm.run Nm.signB true (l.drop at_.toNat)), ofL v⟩ ≠ 0
      then .bad (right ⟨ofL ((l.drop at_.toNat).take (Nm.run Nm.signB true (l.drop at_.toNat))), opAt l (at_.toNat + Nm.run Nm.signB true (l.drop at_.toNat)), ofL v⟩) (at_.toNat + Nm.run Nm.signB true (l.drop at_.toNat) + (sgn (opAt l (at_.toNat + Nm.run Nm.signB true (l.drop at_.toNat)))).length)
      else .ok ⟨ofL ((l.drop at_.toNat).take (Nm.run Nm.signB true (l.drop at_.toNat))), opAt l (at_.toNat + Nm.run Nm.signB true (l.drop at_.toNat)), ofL v⟩ p
theorem right_ok {m : M} (h : right m = 0) : Nm.labelB m.name.data.toList = true ∧ 1 ≤ m.op ∧ m.op ≤ 4 := by
  unfold right at h
  by_cases c : Nm.labelB m.name.data.toList = false
  · rw [if_pos c] at h; omega
  · rw [if_neg c] at h
    by_cases d : m.op < 1 ∨ 4 < m.op
    · rw [if_pos d] at h; omega
    · exact ⟨by simpa using c, by omega, by omega⟩
theorem take_back {m : M} (h : right m = 0) (pre post : List UInt8) : take (pre ++ text m ++ post) pre.length = .ok m (pre.length + (text m).length) := by
  obtain ⟨hl, h1, h4⟩ := right_ok h
  have hq : Qu.text m.val.data.toList = 34 :: (Qu.rest m.val.data.toList 0 ++ [34]) := rfl
  have hsl : 1 ≤ (sgn m.op).length := by unfold sgn; (repeat' split) <;> simp
  have hd : (pre ++ text m ++ post).drop pre.length = m.name.data.toList ++ (sgn m.op ++ (Qu.text m.val.data.toList ++ post)) := by
    rw [List.append_assoc, List.drop_left]; simp [text]
  have hrun : Nm.run Nm.signB true ((pre ++ text m ++ post).drop pre.length) = m.name.data.toList.length := by
    rw [hd]
    refine Nm.run_label hl _ (fun c hc => ?_)
    have : c = 61 ∨ c = 33 := by
      have h14 : m.op = 1 ∨ m.op = 2 ∨ m.op = 3 ∨ m.op = 4 := by omega
      unfold sgn at hc
      rcases h14 with e | e | e | e <;> (rw [e] at hc; simp at hc) <;> first | exact Or.inl hc.symm | exact Or.inr hc.symm
    rcases this with rfl | rfl <;> decide
  have hlen := hl
  simp only [Nm.labelB, Bool.and_eq_true, decide_eq_true_eq] at hlen
  have hk : ∀ j, Qu.bt (pre ++ text m ++ post) (pre.length + m.name.data.toList.length + j) = Qu.bt (sgn m.op ++ (34 :: (Qu.rest m.val.data.toList 0 ++ [34] ++ post))) j := fun j => by
    rw [Qu.bt_drop, ← List.drop_drop, hd, List.drop_left, hq]
    simp
  have h0 := hk 0
  have hk1 := hk 1
  rw [Nat.add_zero] at h0
  have hop : (opAt (pre ++ text m ++ post) (pre.length + m.name.data.toList.length) : Int) = m.op := by
    have h14 : m.op = 1 ∨ m.op = 2 ∨ m.op = 3 ∨ m.op = 4 := by omega
    unfold opAt
    rw [h0, hk1]
    rcases h14 with e | e | e | e <;> (rw [e]; rfl)
  have hrd : Qu.read (pre ++ text m ++ post) ((pre.length + m.name.data.toList.length + (sgn m.op).length : Nat) : Int) = .ok m.val.data.toList (pre.length + m.name.data.toList.length + (sgn m.op).length + (Qu.text m.val.data.toList).length) := by
    have := Qu.read_back (pre ++ m.name.data.toList ++ sgn m.op) m.val.data.toList post
    have e1 : pre ++ m.name.data.toList ++ sgn m.op ++ Qu.text m.val.data.toList ++ post = pre ++ text m ++ post := by simp [text]
    have e2 : (pre ++ m.name.data.toList ++ sgn m.op).length = pre.length + m.name.data.toList.length + (sgn m.op).length := by simp; omega
    rw [e1, e2] at this
    exact this
  have htl : (pre ++ text m ++ post).length = pre.length + (text m).length + post.length := by simp; omega
  have htx : (text m).length = m.name.data.toList.length + (sgn m.op).length + (Qu.text m.val.data.toList).length := by simp [text]; omega
  have hm : (⟨ofL (((pre ++ text m ++ post).drop pre.length).take m.name.data.toList.length), opAt (pre ++ text m ++ post) (pre.length + m.name.data.toList.length), ofL m.val.data.toList⟩ : M) = m := by
    rw [hop, hd, List.take_left, ofL_self, ofL_self]
  have ho1 : opAt (pre ++ text m ++ post) (pre.length + m.name.data.toList.length) ≠ 0 := by omega
  have hex : (↑(pre.length + m.name.data.toList.length + (sgn (↑(opAt (pre ++ text m ++ post) (pre.length + m.name.data.toList.length)))).length) : Int) = ((pre.length + m.name.data.toList.length + (sgn m.op).length : Nat) : Int) := by rw [hop]
  unfold take
  rw [if_neg (by omega), if_neg (by omega), Int.toNat_natCast, hrun, if_neg (by omega), if_neg ho1, hex, hrd]
  dsimp only
  rw [hm, if_neg (by rw [h]; simp), htx]
  congr 1
  omega
end Mt
end Go.Proofs.YtampjnpnekekiaaDoor
namespace Go.Proofs.YtampjnpnekekiaaDoor
open Go
set_option linter.unusedVariables false
set_option linter.unusedSimpArgs false
set_option maxRecDepth 10000
open Sh Gn
namespace Pl
def toM (g : GMatcher) : Mt.M := ⟨g.Name, g.Op, g.Value⟩
theorem lab_eq {s : ByteArray} : lab s = Nm.labelB s.data.toList := by
  unfold lab Nm.labelB Nm.allB runAt
  rw [size_list, List.drop_zero, Bool.eq_iff_iff]
  simp [and_assoc]
theorem mright_p {N : Nat} (hN : 1000 ≤ N) (g : GMatcher) : matcher_Right_g N g = some (Mt.right (toM g)) := by
  unfold matcher_Right_g Mt.right toM
  rw [label_p hN, lab_eq]
  simp only [Option.bind_some, cond_not, cm_lss, cm_gtr, cm_eql, cm_neq, cond_dec, ite_or, sl_eq]
  cases Nm.labelB g.Name.data.toList with
  | false => rfl
  | true =>
    simp only [_root_.cond_true, Bool.true_eq_false, if_false]
    by_cases c1 : g.Op < 1 ∨ 4 < g.Op
    · simp only [c1, if_true]
    · simp only [c1, if_false]
      by_cases c2 : g.Op ≤ 2
      · have c2' : g.Op = 1 ∨ g.Op = 2 := by omega
        simp only [c2, c2', if_true]
        by_cases c3 : 1024 < g.Value.size
        · have c3' : (1024 : Int) < (g.Value.size : Int) := by omega
          simp only [c3, c3', if_true]
        · have c3' : ¬ (1024 : Int) < (g.Value.size : Int) := by omega
          simp only [c3, c3', if_false]
      · have c2' : ¬ (g.Op = 1 ∨ g.Op = 2) := by omega
        simp only [c2, c2', if_false]
        unfold regex_Parse_g
        simp only [Option.bind_some]
        by_cases c3 : (Rx.parse g.Value.data.toList).2.1 = 0
        · simp only [c3, if_true]
        · simp only [c3, if_false]
theorem msign_p (o : Int) : matcher_sign_g o = some (Mt.ofL (Mt.sgn o)) := by
  unfold matcher_sign_g Mt.sgn
  simp only [cm_eql, cond_dec]
  by_cases c1 : o = 1
  · simp only [c1, if_true]; rfl
  by_cases c2 : o = 2
  · simp only [c1, c2, if_true, if_false]; rfl
  by_cases c3 : o = 3
  · simp only [c1, c2, c3, if_true, if_false]; rfl
  by_cases c4 : o = 4
  · simp only [c1, c2, c3, c4, if_true, if_false]; rfl
  · simp only [c1, c2, c3, c4, if_false]; rfl
theorem rsgn_p (o : Int) : r22_Sign_g o = some (Mt.ofL (Mt.sgn o)) := msign_p o
theorem ba_eq {s t : ByteArray} : s = t ↔ s.data.toList = t.data.toList :=
  ⟨fun h => by rw [h], fun h => ByteArray.ext (Array.ext' h)⟩
theorem prefix_p (t : ByteArray) (p : List UInt8) : strings_HasPrefix_g t (Mt.ofL p) = some (decide (t.data.toList.take p.length = p)) := by
  have hz : (Mt.ofL p).size = p.length := by rw [← size_list, Mt.ofL_list]
  unfold strings_HasPrefix_g internal_stringslite_HasPrefix_g
  rw [cm_geq, cond_dec, sl_eq, sl_eq, sc_eql, hz]
  by_cases c : p.length ≤ t.size
  · have e := ss_list (s := t) (i := 0) (j := p.length) (by omega) c
    have e : (ss t 0 (p.length : Int)).data.toList = (t.data.toList.drop 0).take (p.length - 0) := e
    have hin : ssinB t 0 (p.length : Int) = true := ssin_nat (s := t) (i := 0) (j := p.length) (by omega) c
    rw [if_pos (by omega), hin, _root_.cond_true, Option.bind_some, Option.bind_some]
    congr 1
    refine decide_eq_decide.2 ?_
    rw [ba_eq, e, Mt.ofL_list]; rfl
  · rw [if_neg (by omega)]
    refine congrArg some (decide_eq_false fun h => ?_).symm
    have := congrArg List.length h
    rw [List.length_take, size_list] at this
    omega
theorem take1 (l : List UInt8) (a : UInt8) (ha : a.toNat ≠ 0) : l.take 1 = [a] ↔ Qu.bt l 0 = a.toNat := by
  cases l with
  | nil => simp [Qu.bt]; omega
  | cons x r => simp [Qu.bt, UInt8.toNat_inj]
theorem take2 (l : List UInt8) (a b : UInt8) (ha : a.toNat ≠ 0) (hb : b.toNat ≠ 0) : l.take 2 = [a, b] ↔ Qu.bt l 0 = a.toNat ∧ Qu.bt l 1 = b.toNat := by
  match l with
  | [] => simp [Qu.bt]; omega
  | [x] => simp [Qu.bt]; omega
  | x :: y :: r => simp [Qu.bt, UInt8.toNat_inj]
section
variable {s : ByteArray} {i : Nat}
theorem op_p {N : Nat} (hN : 20 ≤ N) (hs : s.size ≤ 100000) (hi : i ≤ s.size) : matcher_op_g N s i = some (if Mt.opAt s.data.toList i = 0 then (0, ⟨((Mt.opBad s.data.toList i).1 : Int), ((Mt.opBad s.data.toList i).2 : Int)⟩) else ((Mt.opAt s.data.toList i : Int), ⟨0, 0⟩)) := by
  obtain ⟨m, rfl⟩ : ∃ m, N = m + 5 := ⟨N - 5, by omega⟩
  obtain ⟨t, ht⟩ : ∃ t, t = ss s (i : Int) (sl s) := ⟨_, rfl⟩
  have hb : ∀ j, Qu.bt t.data.toList j = Qu.bt s.data.toList (i + j) := fun j => by rw [ht, ss_end hi, Qu.bt_drop]
  have hz : t.size = s.size - i := by rw [ht]; exact size_end hi
  have l0 : ∀ m, matcher_op_l1 s i (m + 1) 0 = (strings_HasPrefix_g t (Mt.ofL [61, 126])).bind fun a => cond a (some (3, ⟨0, 0⟩)) (matcher_op_l1 s i m 1) := fun m => by rw [ht]; rfl
  have l1 : ∀ m, matcher_op_l1 s i (m + 1) 1 = (strings_HasPrefix_g t (Mt.ofL [33, 126])).bind fun a => cond a (some (4, ⟨0, 0⟩)) (matcher_op_l1 s i m 2) := fun m => by rw [ht]; rfl
  have l2 : ∀ m, matcher_op_l1 s i (m + 1) 2 = (strings_HasPrefix_g t (Mt.ofL [33, 61])).bind fun a => cond a (some (2, ⟨0, 0⟩)) (matcher_op_l1 s i m 3) := fun m => by rw [ht]; rfl
  have l3 : ∀ m, matcher_op_l1 s i (m + 1) 3 = (strings_HasPrefix_g t (Mt.ofL [61])).bind fun a => cond a (some (1, ⟨0, 0⟩)) (matcher_op_l1 s i m 4) := fun m => by rw [ht]; rfl
  have l4 : ∀ m, matcher_op_l1 s i (m + 1) 4 = cond (sc .eql t ByteArray.empty) (some (0, ⟨1, (i : Int)⟩)) (cond (sc .eql t (ByteArray.mk #[33])) (some (0, ⟨1, ar .add .i64 i 1⟩)) (some (0, ⟨2, (i : Int)⟩))) := fun m => by rw [ht]; rfl
  have a2 : ∀ a b : UInt8, a.toNat ≠ 0 → b.toNat ≠ 0 → strings_HasPrefix_g t (Mt.ofL [a, b]) = some (decide (Qu.bt s.data.toList i = a.toNat ∧ Qu.bt s.data.toList (i + 1) = b.toNat)) := fun a b ha hb' => by
    rw [prefix_p]
    have := take2 t.data.toList a b ha hb'
    rw [hb, hb] at this
    exact congrArg some (decide_eq_decide.2 this)
  have a1 : ∀ a : UInt8, a.toNat ≠ 0 → strings_HasPrefix_g t (Mt.ofL [a]) = some (decide (Qu.bt s.data.toList i = a.toNat)) := fun a ha => by
    rw [prefix_p]
    have := take1 t.data.toList a ha
    rw [hb] at this
    exact congrArg some (decide_eq_decide.2 this)
  unfold matcher_op_g
  rw [ssin_end hi, _root_.cond_true, l0, l1, l2, l3, l4, a2 61 126 (by decide) (by decide), a2 33 126 (by decide) (by decide), a2 33 61 (by decide) (by decide), a1 61 (by decide), inc1 (by omega)]
  simp only [Option.bind_some, cond_dec, sc_eql, show (61 : UInt8).toNat = 61 from rfl, show (33 : UInt8).toNat = 33 from rfl, show (126 : UInt8).toNat = 126 from rfl]
  unfold Mt.opAt
  by_cases c1 : Qu.bt s.data.toList i = 61
  · by_cases c2 : Qu.bt s.data.toList (i + 1) = 126
    · simp [c1, c2]
    · simp [c1, c2]
  · by_cases c3 : Qu.bt s.data.toList i = 33
    · by_cases c4 : Qu.bt s.data.toList (i + 1) = 61
      · simp [c3, c4]
      · by_cases c5 : Qu.bt s.data.toList (i + 1) = 126
        · simp [c3, c5]
        · have hlt : i < s.size := Nat.lt_of_not_le fun g => by
            have : Qu.bt s.data.toList i = 0 := by unfold Qu.bt; rw [List.getElem?_eq_none (by rw [size_list]; omega)]
            omega
          have hne : ¬ t = ByteArray.empty := fun e => by rw [e] at hz; have : ByteArray.empty.size = 0 := rfl; omega
          have hone : t = ByteArray.mk #[33] ↔ i + 1 = s.size := by
            constructor
            · intro e
              have : (ByteArray.mk #[33]).size = 1 := rfl
              rw [e] at hz; omega
            · intro e
              rw [ba_eq]
              have hl : t.data.toList.length = 1 := by rw [size_list]; omega
              obtain ⟨x, hx⟩ := List.length_eq_one_iff.1 hl
              have h0 := hb 0
              rw [hx] at h0
              have h0 : x.toNat = 33 := by rw [Nat.add_zero, c3] at h0; exact h0
              rw [hx]
              show [x] = [33]
              congr 1
              exact UInt8.toNat_inj.1 h0
          have hlen : ¬ i = s.data.toList.length := by rw [size_list]; omega
          unfold Mt.opBad
          simp only [c3, c4, c5, hne, if_false, hlen, if_true, true_and, false_and, and_false]
          by_cases c6 : i + 1 = s.size
          · have c6' : i + 1 = s.data.toList.length := by rw [size_list]; exact c6
            simp [hone.2 c6, c6']
          · have c6' : ¬ i + 1 = s.data.toList.length := by rw [size_list]; exact c6
            have : ¬ t = ByteArray.mk #[33] := fun e => c6 (hone.1 e)
            simp [this, c6]
    · unfold Mt.opBad
      simp only [c1, c3, if_false, false_and, if_true]
      have hone : ¬ t = ByteArray.mk #[33] := fun e => by
        have := hb 0
        rw [e] at this
        exact c3 this.symm
      simp only [hone, if_false]
      by_cases c4 : i = s.size
      · have : t = ByteArray.empty := by
          rw [ba_eq]
          have hl : t.data.toList.length = 0 := by rw [size_list]; omega
          rw [List.length_eq_zero_iff.1 hl]; rfl
        rw [if_pos this, if_pos (by rw [size_list]; exact c4)]; rfl
      · have : ¬ t = ByteArray.empty := fun e => by rw [e] at hz; have : ByteArray.empty.size = 0 := rfl; omega
        rw [if_neg this, if_neg (by rw [size_list]; exact c4)]; rfl
end
end Pl
end Go.Proofs.YtampjnpnekekiaaDoor
namespace Go.Proofs.YtampjnpnekekiaaDoor
open Go
set_option linter.unusedVariables false
set_option linter.unusedSimpArgs false
set_option maxRecDepth 10000
open Sh Gn
namespace Pl
def takeV (g : Mt.Got) : GMatcher × Int × GFault := match g with | .ok m p => (⟨m.name, m.op, m.val⟩, (p : Int), ⟨0, 0⟩) | .bad e p => (⟨ByteArray.empty, 0, ByteArray.empty⟩, 0, ⟨e, (p : Int)⟩)
theorem run_take (g : Int → Bool → Bool) : ∀ (f : Bool) (l : List UInt8), Nm.run g f (l.take (Nm.run g f l)) = Nm.run g f l
  | f, [] => by simp [Nm.run]
  | f, c :: r => by
    by_cases h : g c.toNat f = true
    · have e : Nm.run g f (c :: r) = Nm.run g false r + 1 := by rw [Nm.run, if_pos h]
      rw [e, List.take_succ_cons, Nm.run, if_pos h, run_take g false r]
    · have e : Nm.run g f (c :: r) = 0 := by rw [Nm.run, if_neg h]
      rw [e]; rfl
section
variable {s : ByteArray}
theorem cut_p {N i : Nat} (hN : 200000 ≤ N) (hs : s.size ≤ 100000) (hi : i ≤ s.size) :
    name_Cut_g N s i = some (Mt.ofL ((s.data.toList.drop i).take (Nm.run Nm.signB true (s.data.toList.drop i))), ((i + Nm.run Nm.signB true (s.data.toList.drop i) : Nat) : Int)) := by
  have hz := size_end hi
  have hl := ss_end hi
  have hr := Nm.run_le Nm.signB true (s.data.toList.drop i)
  rw [List.length_drop, size_list] at hr
  unfold name_Cut_g
  rw [cm_lss, cm_gtr, cond_dec, sl_eq, if_neg (by omega), decide_eq_false (by omega)]
  simp only [Option.bind_some, cond_false]
  rw [← sl_eq, ssin_end hi, _root_.cond_true]
  have hr' : runAt (ss s (i : Int) (sl s)) true 0 = Nm.run Nm.signB true (s.data.toList.drop i) := by unfold runAt; rw [hl, List.drop_zero]
  have key := cut_from (p0 := s) (p1 := (i : Int)) rfl hr' N 0 (by omega) (by omega) (by rw [show ((0 : Nat) == 0) = true from rfl, hr']; omega)
  rw [show ((0 : Nat) : Int) = 0 from rfl] at key
  rw [key]
  generalize Nm.run Nm.signB true (s.data.toList.drop i) = R at *
  by_cases c : R = s.size - i
  · rw [if_pos (by omega)]
    congr 2
    · rw [← Mt.ofL_self (ss s (i : Int) (sl s)), hl, List.take_of_length_le (by rw [List.length_drop, size_list]; omega)]
    · rw [sl_eq]; omega
  · rw [if_neg (by omega), ar_add (by omega) (by omega)]
    congr 2
    rw [← Mt.ofL_self (ss (ss s (i : Int) (sl s)) 0 (R : Int))]
    have := ss_list (s := ss s (i : Int) (sl s)) (i := 0) (j := R) (by omega) (by omega)
    have this : (ss (ss s (i : Int) (sl s)) 0 (R : Int)).data.toList = (((ss s (i : Int) (sl s)).data.toList).drop 0).take (R - 0) := this
    rw [this, hl]; rfl
theorem lab_run (l : List UInt8) : Nm.labelB (l.take (Nm.run Nm.signB true l)) = decide (¬ (Nm.run Nm.signB true l < 1 ∨ 32 < Nm.run Nm.signB true l)) := by
  have h := run_take Nm.signB true l
  have hl := Nm.run_le Nm.signB true l
  unfold Nm.labelB Nm.allB
  rw [h, List.length_take, Nat.min_eq_left hl, Bool.eq_iff_iff]
  simp
  omega
theorem opAt_le (l : List UInt8) (i : Nat) : Mt.opAt l i ≤ 4 := by unfold Mt.opAt; (repeat' split) <;> omega
theorem sgn_size (o : Int) : (Mt.ofL (Mt.sgn o)).size = (Mt.sgn o).length ∧ (Mt.sgn o).length ≤ 2 := by
  refine ⟨by rw [← size_list, Mt.ofL_list], ?_⟩
  unfold Mt.sgn; (repeat' split) <;> decide
theorem opBad_ne (l : List UInt8) (i : Nat) : (Mt.opBad l i).1 ≠ 0 := by unfold Mt.opBad; (repeat' split) <;> (intro h; cases h)
theorem body_ne (l : List UInt8) : ∀ (f : Nat) (out : List UInt8) (i e p : Nat), Qu.body l f out i = .bad e p → e ≠ 0
  | 0, out, i, e, p, h => by unfold Qu.body at h; cases h; decide
  | f + 1, out, i, e, p, h => by
    unfold Qu.body at h
    split at h
    · split at h
      · cases h
      · cases hu : Qu.un l i with
        | ok t n => rw [hu] at h; exact body_ne l f _ _ e p h
        | bad e' p' =>
          rw [hu] at h
          cases h
          unfold Qu.un at hu
          split at hu
          · cases hE : Qu.esc l i with
            | ok b n => rw [hE] at hu; cases hu
            | bad e'' =>
              rw [hE] at hu
              cases hu
              rcases esc_bad hE with rfl | rfl <;> decide
          · split at hu
            · cases hu
            · cases hu; decide
    · cases h; decide
theorem read_ne {l : List UInt8} {a : Int} {e p : Nat} (h : Qu.read l a = .bad e p) : e ≠ 0 := by
  unfold Qu.read at h
  split at h
  · cases h; decide
  · split at h
    · cases h; decide
    · split at h
      · cases h; decide
      · exact body_ne _ _ _ _ _ _ h
theorem mtake_p {N : Nat} (hN : 200000 ≤ N) (hs : s.size ≤ 90000) (p : Int) : matcher_Take_g N s p = some (takeV (Mt.take s.data.toList p)) := by
  unfold matcher_Take_g Mt.take
  simp only [cm_lss, cm_gtr, cm_eql, cm_neq, cond_not, cond_dec, sl_eq, ite_or, Option.bind_some, size_list]
  by_cases c1 : p < 0 ∨ (s.size : Int) < p
  · simp only [c1, if_true]; rfl
  obtain ⟨i, rfl⟩ : ∃ i : Nat, p = i := ⟨p.toNat, by omega⟩
  simp only [c1, if_false, Int.toNat_natCast]
  by_cases c2 : (i : Int) = s.size
  · simp only [c2, if_true]
    have : i = s.size := by omega
    subst this; rfl
  simp only [c2, if_false]
  have hr := Nm.run_le Nm.signB true (s.data.toList.drop i)
  rw [List.length_drop, size_list] at hr
  rw [cut_p hN (by omega) (by omega), Option.bind_some, label_p (by omega), lab_eq, Mt.ofL_list, lab_run]
  simp only [Option.bind_some]
  obtain ⟨l, hl⟩ : ∃ l, l = s.data.toList.drop i := ⟨_, rfl⟩
  rw [← hl] at hr ⊢
  obtain ⟨R, hR⟩ : ∃ R, R = Nm.run Nm.signB true l := ⟨_, rfl⟩
  rw [← hR] at hr ⊢
  by_cases c3 : R < 1 ∨ 32 < R
  · simp only [c3, not_true_eq_false, decide_false, cond_false, if_true]; rfl
  simp only [c3, not_false_eq_true, decide_true, _root_.cond_true, if_false]
  rw [op_p (by omega) (by omega) (by omega), Option.bind_some]
  obtain ⟨o, ho⟩ : ∃ o, o = Mt.opAt s.data.toList (i + R) := ⟨_, rfl⟩
  rw [← ho]
  have ho4 : o ≤ 4 := by rw [ho]; exact opAt_le _ _
  by_cases c4 : o = 0
  · have hne := opBad_ne s.data.toList (i + R)
    have hne' : ¬ ((Mt.opBad s.data.toList (i + R)).1 : Int) = 0 := by omega
    simp only [c4, if_true, hne', if_false]; rfl
  simp only [c4, if_false, if_true, msign_p, Option.bind_some]
  have hz := sgn_size (o : Int)
  rw [hz.1, ar_add (by omega) (by omega), qread_p hN (by omega), Option.bind_some]
  have ea : ((i + R : Nat) : Int) + ((Mt.sgn (o : Int)).length : Int) = ((i + R + (Mt.sgn (o : Int)).length : Nat) : Int) := by omega
  rw [ea]
  cases hq : Qu.read s.data.toList ((i + R + (Mt.sgn (o : Int)).length : Nat) : Int) with
  | bad e q =>
    have he : ¬ (e : Int) = 0 := by
      have := read_ne hq
      omega
    simp only [gotV, he, if_false]; rfl
  | ok v q =>
    simp only [gotV, if_true, mright_p (N := N) (by omega), Option.bind_some, toM]
    by_cases c5 : Mt.right ⟨Mt.ofL (l.take R), (o : Int), ⟨v.toArray⟩⟩ = 0
    · have c5' : Mt.right ⟨Mt.ofL (l.take R), (o : Int), Mt.ofL v⟩ = 0 := c5
      simp only [c5, c5', if_true, ne_eq, not_true_eq_false, if_false]; rfl
    · have c5' : ¬ Mt.right ⟨Mt.ofL (l.take R), (o : Int), Mt.ofL v⟩ = 0 := c5
      simp only [c5, c5', ne_eq, not_false_eq_true, if_true, if_false]; rfl
end
end Pl
end Go.Proofs.YtampjnpnekekiaaDoor
namespace Go.Proofs.YtampjnpnekekiaaDoor
open Go
set_option linter.unusedVariables false
set_option linter.unusedSimpArgs false
set_option maxRecDepth 100000
open Sh Gn
namespace Pl
theorem works_p : l22_works_g 200000 = some true := by decide +kernel
theorem conj3 {a b c : Bool} : conj [a, b, c] = (a && (b && c)) := by show (a && (b && (c && true))) = _; rw [Bool.and_true]
theorem conj2 {a b : Bool} : conj [a, b] = (a && b) := by show (a && (b && true)) = _; rw [Bool.and_true]
theorem seql_self (x : ByteArray) : sc .eql x x = true := by rw [sc_eql]; exact decide_eq_true rfl
end Pl
end Go.Proofs.YtampjnpnekekiaaDoor
