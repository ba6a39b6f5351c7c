/- Plans: plain: the image of a state makes it; what a plan does. -/
import Derived.Test.YtgcgilcalmefgaaRnBs
import Derived.Test.YtgcgilcalmefgaaRnH
import Derived.Test.YtgcgilcalmefgaaRnV
import Derived.Test.YtgcgilcalmefgaaRnW3
import Derived.Test.YtgcgilcalmefgaaRow
import Derived.Test.YtgcgilcalmefgaaRnG
import Derived.Defers
import Derived.Test.YtgcgilcalmefgaaRnK
import Derived.Test.YtgcgilcalmefgaaRnL
import Derived.Test.YtgcgilcalmefgaaNameW3
import Derived.Test.YtgcgilcalmefgaaRnAm
import Derived.Test.YtgcgilcalmefgaaReg4
namespace Go.Proofs.Ytgcgilcalmefgaa
open Go
set_option linter.unusedVariables false
namespace Pl
open Rn
def evT (n : ByteArray) (num epoch : Int) : E := ⟨1, n, num, epoch, ⟨#[]⟩⟩
def evK (n : ByteArray) (num : Int) (txt : ByteArray) : E := ⟨2, n, num, 0, txt⟩
def evD (n : ByteArray) (num : Int) : E := ⟨3, n, num, 0, ⟨#[]⟩⟩
def evS (num : Int) : E := ⟨4, ⟨#[]⟩, num, 0, ⟨#[]⟩⟩
def keyEs (n : ByteArray) (ks : List K) : List E := ks.map (fun k => evK n k.num k.txt)
def tenEs (t : T) : List E := evT t.name t.next t.epoch :: keyEs t.name t.keys
def imageL (s : S) : List E := s.tens.flatMap tenEs ++ [evS s.serial]
def image (s : S) : List E := if right s = true then imageL s else []
theorem spotT_all {l : List T} {n : ByteArray} (h : ∀ x ∈ l, less x.name n = true) : spotT l n = l.length :=
  spot_is (key := T.name) (lt := less) (Nat.le_refl _) (fun k hk _ => h _ (List.getElem_mem hk)) (fun h => absurd h (by omega))
theorem spotK_all {l : List K} {n : Int} (h : ∀ x ∈ l, x.num < n) : spotK l n = l.length :=
  spot_is (key := K.num) (lt := fun a b => decide (a < b)) (Nat.le_refl _) (fun k hk _ => decide_eq_true (h _ (List.getElem_mem hk))) (fun h => absurd h (by omega))
theorem spotT_end {l : List T} {t : T} {r : List T} (h : ∀ x ∈ l, less x.name t.name = true) : spotT (l ++ t :: r) t.name = l.length :=
  spot_is (key := T.name) (lt := less) (by simp) (fun k hk hkl => by rw [List.getElem_append_left hkl]; exact h _ (List.getElem_mem hkl)) (fun hl => by rw [List.getElem_append_right (Nat.le_refl _)]; simp [less_irr])
theorem hasT_all {l : List T} {n : ByteArray} (h : ∀ x ∈ l, less x.name n = true) : hasT l n = false := by
  unfold hasT; rw [spotT_all h, List.getElem?_eq_none (Nat.le_refl _)]
theorem hasK_all {l : List K} {n : Int} (h : ∀ x ∈ l, x.num < n) : hasK l n = false := by
  unfold hasK; rw [spotK_all h, List.getElem?_eq_none (Nat.le_refl _)]
theorem hasT_end {l : List T} {t : T} {r : List T} (h : ∀ x ∈ l, less x.name t.name = true) : hasT (l ++ t :: r) t.name = true := by
  unfold hasT; rw [spotT_end h, List.getElem?_append_right (Nat.le_refl _)]; simp
theorem ins_end {α : Type} (l : List α) (x : α) : ins l l.length x = l ++ [x] := by unfold ins; simp
theorem set_end {α : Type} (l r : List α) (x y : α) : (l ++ x :: r).set l.length y = l ++ y :: r := by rw [List.set_append_right _ _ (Nat.le_refl _)]; simp
theorem doTen_new {s : S} {n : ByteArray} {num epoch : Int} (h : ∀ x ∈ s.tens, less x.name n = true) (hl : s.tens.length < 16) (he : 0 ≤ epoch) (hn : 0 ≤ num) : doE s (evT n num epoch) = .ok ⟨s.tens ++ [⟨n, epoch, num, []⟩], s.serial⟩ := by
  show doTen s (evT n num epoch) = _
  unfold doTen evT
  dsimp only
  rw [hasT_all h, if_neg (by omega), if_neg (by simp), spotT_all h, ins_end, List.getElem?_append_right (Nat.le_refl _)]
  simp only [Nat.sub_self, List.getElem?_cons_zero]
  rw [if_neg (by show ¬ (epoch < (0 : Int) ∨ num < (0 : Int)); omega), set_end]
  rfl
theorem doKey_new {pre : List T} {ser : Int} {n : ByteArray} {e x : Int} {ks : List K} {num : Int} {txt : ByteArray} (h : ∀ y ∈ pre, less y.name n = true) (hx : num < x) (hk : ∀ k ∈ ks, k.num < num) (h8 : ks.length < 8) :
    doE ⟨pre ++ [⟨n, e, x, ks⟩], ser⟩ (evK n num txt) = .ok ⟨pre ++ [⟨n, e, x, ks ++ [⟨num, txt⟩]⟩], ser⟩ := by
  show doKey _ (evK n num txt) = _
  unfold doKey evK
  dsimp only
  have hh : hasT (pre ++ [⟨n, e, x, ks⟩]) n = true := hasT_end (t := ⟨n, e, x, ks⟩) (r := []) h
  have hs : spotT (pre ++ [⟨n, e, x, ks⟩]) n = pre.length := spotT_end (t := ⟨n, e, x, ks⟩) (r := []) h
  rw [hh, if_neg (by decide), hs, List.getElem?_append_right (Nat.le_refl _)]
  simp only [Nat.sub_self, List.getElem?_cons_zero]
  rw [if_neg (by decide), if_neg (by omega), hasK_all hk, if_neg (by decide), if_neg (by omega), spotK_all hk, ins_end, set_end]
theorem run_keys {pre : List T} {ser : Int} {n : ByteArray} {e x : Int} (h : ∀ y ∈ pre, less y.name n = true) (hw : Nm.wordB n.data.toList = true) : ∀ (ks2 ks1 : List K), (∀ k ∈ ks1 ++ ks2, keyB x k = true) → (ks1 ++ ks2).Pairwise (fun a b => a.num < b.num) → (ks1 ++ ks2).length ≤ 8 → x ≤ 1099511627776 →
    run ⟨pre ++ [⟨n, e, x, ks1⟩], ser⟩ (keyEs n ks2) = .ok ⟨pre ++ [⟨n, e, x, ks1 ++ ks2⟩], ser⟩
  | [], ks1, _, _, _, _ => by rw [List.append_nil]; rfl
  | k :: r, ks1, hb, hp, h8, hx => by
    have hk := keyB_iff.1 (hb k (by simp))
    have hp2 := List.pairwise_append.1 hp
    have hd := doKey_new (pre := pre) (ser := ser) (e := e) (txt := k.txt) h hk.2.1 (fun y hy => hp2.2.2 y hy k (by simp)) (by rw [List.length_append, List.length_cons] at h8; omega)
    have hf : form (evK n k.num k.txt) = true := by
      unfold form evK
      dsimp only
      rw [if_neg (by decide), if_pos rfl, hw]
      have h1 : fromB k.num 1 = true := fromB_iff.2 ⟨hk.1, by omega⟩
      rw [h1]
      simp [hk.2.2]
    have ih := run_keys h hw (e := e) (ser := ser) r (ks1 ++ [⟨k.num, k.txt⟩]) (by simpa using hb) (by simpa using hp) (by simpa using h8) hx
    show run _ (evK n k.num k.txt :: keyEs n r) = _
    rw [run_eq, if_neg (by rw [hf]; decide), hd]
    dsimp only
    rw [ih, List.append_assoc]
    rfl
theorem run_tens {ser : Int} : ∀ (post pre : List T), (∀ t ∈ pre ++ post, tenB t = true) → (pre ++ post).Pairwise (fun a b => less a.name b.name = true) → (pre ++ post).length ≤ 16 → run ⟨pre, ser⟩ (post.flatMap tenEs) = .ok ⟨pre ++ post, ser⟩
  | [], pre, _, _, _ => by rw [List.append_nil]; rfl
  | t :: r, pre, hb, hp, hl => by
    obtain ⟨h1, h2, h3, h4, h5, h6⟩ := ten_parts (hb t (by simp))
    have hp2 := List.pairwise_append.1 hp
    have hless : ∀ y ∈ pre, less y.name t.name = true := fun y hy => hp2.2.2 y hy t (by simp)
    have h2' := fromB_iff.1 h2
    have h3' := fromB_iff.1 h3
    have hd := doTen_new (s := ⟨pre, ser⟩) (num := t.next) (epoch := t.epoch) hless (by rw [List.length_append, List.length_cons] at hl; show pre.length < 16; omega) h2'.1 (by omega)
    have hf : form (evT t.name t.next t.epoch) = true := by
      unfold form evT
      dsimp only
      rw [if_pos rfl, h1, h2, h3]
      rfl
    have hkp : t.keys.Pairwise (fun a b => a.num < b.num) := by
      have := rises_pw (key := K.num) (lt := fun a b => decide (a < b)) numlt_tr t.keys h6
      simpa using this
    have hk := run_keys (e := t.epoch) (ser := ser) hless h1 t.keys [] h5 hkp h4 h3'.2
    have ih := run_tens (ser := ser) r (pre ++ [t]) (by simpa using hb) (by simpa using hp) (by simpa using hl)
    rw [List.flatMap_cons, run_append]
    have e1 : run ⟨pre, ser⟩ (tenEs t) = .ok ⟨pre ++ [t], ser⟩ := by
      unfold tenEs
      rw [run_eq, if_neg (by rw [hf]; decide), hd]
      dsimp only
      rw [hk]
      rfl
    rw [e1]
    dsimp only
    rw [ih, List.append_assoc]
    rfl
theorem image_run {s : S} (h : right s = true) : all zeroS (image s) = .ok s := by
  obtain ⟨h1, h2, h3, h4⟩ := right_parts h
  have hz : right zeroS = true := by decide
  have e : all zeroS (image s) = run zeroS (imageL s) := by unfold all image; rw [if_neg (by rw [hz]; decide), if_pos h]
  rw [e]
  unfold imageL
  have ht := run_tens (ser := 0) s.tens [] h3 (rises_pw (key := T.name) less_tr s.tens h4) h1
  rw [run_append]
  rw [show zeroS = (⟨[], 0⟩ : S) from rfl, ht]
  dsimp only
  have hser := fromB_iff.1 h2
  have hf : form (evS s.serial) = true := by
    unfold form evS
    dsimp only
    rw [if_neg (by decide), if_neg (by decide), if_neg (by decide), if_pos rfl, h2]
    rfl
  rw [run_eq, if_neg (by rw [hf]; decide)]
  have hd : doE ⟨[] ++ s.tens, 0⟩ (evS s.serial) = .ok s := by
    show (if s.serial < (0 : Int) then R.bad 7 else R.ok ⟨[] ++ s.tens, s.serial⟩) = .ok s
    rw [if_neg (by omega)]
    rfl
  rw [hd]
  rfl
theorem image_len {s : S} (h : right s = true) : (image s).length ≤ 145 := by
  obtain ⟨h1, h2, h3, h4⟩ := right_parts h
  have key : ∀ l : List T, (∀ t ∈ l, tenB t = true) → (l.flatMap tenEs).length ≤ l.length * 9 := by
    intro l
    induction l with
    | nil => intro _; simp
    | cons t r ih =>
      intro hb
      have := (ten_parts (hb t (by simp))).2.2.2.1
      have := ih (fun x hx => hb x (by simp [hx]))
      have e : (tenEs t).length = t.keys.length + 1 := by unfold tenEs keyEs; simp
      rw [List.flatMap_cons, List.length_append, List.length_cons, e]
      omega
  have := key s.tens h3
  unfold image imageL
  rw [if_pos h, List.length_append, List.length_singleton]
  omega
/-- the tenant of that name; the new one -/
def tenAt (s : S) (n : ByteArray) : T := if findI s.tens n < 0 then zeroT n else match s.tens[(findI s.tens n).toNat]? with | some t => t | none => zeroT n
/-- what an operation plans, or what is wrong -/
def planR (op : Nat) (s : S) (n key : ByteArray) (num : Int) : List E × Int :=
  if right s = false then ([], 7)
  else if op = 1 then
    (if Nm.wordB n.data.toList = false then ([], 4) else if key.size ≠ 32 then ([], 7) else if 0 ≤ findI s.tens n then ([], 5) else if s.tens.length = 16 then ([], 3) else ([evT n 2 0, evK n 1 key], 0))
  else if findI s.tens n < 0 then ([], 6)
  else if op = 2 then (if key.size ≠ 32 then ([], 7) else if (tenAt s n).keys.length = 8 ∨ (tenAt s n).next = 1099511627776 then ([], 3) else ([evT n ((tenAt s n).next + 1) (tenAt s n).epoch, evK n (tenAt s n).next key], 0))
  else if op = 3 then (if (keyRes s n num).2 = false then ([], 6) else if (newRes s n).1.num = num then ([], 7) else ([evD n num], 0))
  else if op = 4 then (if (tenAt s n).epoch = 1099511627776 then ([], 3) else ([evT n (tenAt s n).next ((tenAt s n).epoch + 1)], 0))
  else (if (tenAt s n).keys.length = 0 then ([], 6) else if s.serial = 1099511627776 then ([], 3) else ([evS (s.serial + 1)], 0))
/-- a tenant that is there, in a state that may be -/
theorem find_there {s : S} {n : ByteArray} (hr : right s = true) (h : ¬ findI s.tens n < 0) : hasT s.tens n = true ∧ ∃ hi : spotT s.tens n < s.tens.length, findI s.tens n = (spotT s.tens n : Int) ∧ tenAt s n = s.tens[spotT s.tens n] ∧ s.tens[spotT s.tens n].name = n := by
  have h4 := (right_parts hr).2.2.2
  have hf := findI_has (n := n) h4
  cases hh : hasT s.tens n with
  | false => rw [hh, if_neg (by decide)] at hf; omega
  | true =>
    rw [hh, if_pos rfl] at hf
    obtain ⟨hi, hnm⟩ := spotT_hit hh
    refine ⟨rfl, hi, hf, ?_, hnm⟩
    unfold tenAt
    rw [if_neg h, hf, Int.toNat_natCast, List.getElem?_eq_getElem hi]
theorem find_not {s : S} {n : ByteArray} (hr : right s = true) (h : ¬ 0 ≤ findI s.tens n) : hasT s.tens n = false ∧ tenAt s n = zeroT n := by
  have h4 := (right_parts hr).2.2.2
  have hf := findI_has (n := n) h4
  refine ⟨?_, by unfold tenAt; rw [if_pos (by omega)]⟩
  cases hh : hasT s.tens n with
  | false => rfl
  | true => rw [hh, if_pos rfl] at hf; omega
theorem tens_map_set {l : List T} {i : Nat} {x : T} (hi : i < l.length) (hn : x.name = l[i].name) : (l.set i x).map T.name = l.map T.name := by
  rw [List.map_set, hn]
  have h2 : l[i].name = (l.map T.name)[i]'(by simpa using hi) := by simp
  rw [h2, List.set_getElem_self]
theorem findI_map {l m : List T} (h : l.map T.name = m.map T.name) (n : ByteArray) : findI l n = findI m n := by
  have e : ∀ k : List T, k.findIdx? (fun t => decide (t.name = n)) = (k.map T.name).findIdx? (fun x => decide (x = n)) := fun k => by rw [List.findIdx?_map]; rfl
  unfold findI find
  rw [e l, e m, h]
theorem findI_set {l : List T} {i : Nat} {x : T} (hi : i < l.length) (hn : x.name = l[i].name) (n : ByteArray) : findI (l.set i x) n = findI l n := findI_map (tens_map_set hi hn) n
/-- changes of a tenant that is there -/
theorem doTen_there {s : S} {n : ByteArray} {num epoch : Int} {t : T} {i : Nat} (hh : hasT s.tens n = true) (hs : spotT s.tens n = i) (hi : i < s.tens.length) (ht : s.tens[i] = t) (he : t.epoch ≤ epoch) (hn : t.next ≤ num) : doE s (evT n num epoch) = .ok ⟨s.tens.set i ⟨t.name, epoch, num, t.keys⟩, s.serial⟩ := by
  show doTen s (evT n num epoch) = _
  unfold doTen evT
  dsimp only
  rw [hh, if_neg (fun h => by cases h.1), if_pos rfl, hs, List.getElem?_eq_getElem hi, ht]
  dsimp only
  rw [if_neg (by omega)]
theorem doDrop_there {s : S} {n : ByteArray} {num : Int} {t : T} {i : Nat} (hh : hasT s.tens n = true) (hs : spotT s.tens n = i) (hi : i < s.tens.length) (ht : s.tens[i] = t) (hk : hasK t.keys num = true) : doE s (evD n num) = .ok ⟨s.tens.set i ⟨t.name, t.epoch, t.next, del t.keys (spotK t.keys num)⟩, s.serial⟩ := by
  show doKey s (evD n num) = _
  unfold doKey evD
  dsimp only
  rw [hh, if_neg (by decide), hs, List.getElem?_eq_getElem hi, ht]
  dsimp only
  rw [if_pos rfl, hk, if_neg (by decide)]
theorem doKey_there {s : S} {n : ByteArray} {num : Int} {txt : ByteArray} {t : T} {i : Nat} (hh : hasT s.tens n = true) (hs : spotT s.tens n = i) (hi : i < s.tens.length) (ht : s.tens[i] = t) (hx : num < t.next) (hk : ∀ k ∈ t.keys, k.num < num) (h8 : t.keys.length < 8) : doE s (evK n num txt) = .ok ⟨s.tens.set i ⟨t.name, t.epoch, t.next, t.keys ++ [⟨num, txt⟩]⟩, s.serial⟩ := by
  show doKey s (evK n num txt) = _
  unfold doKey evK
  dsimp only
  rw [hh, if_neg (by decide), hs, List.getElem?_eq_getElem hi, ht]
  dsimp only
  rw [if_neg (by decide), if_neg (by omega), hasK_all hk, if_neg (by decide), if_neg (by omega), spotK_all hk, ins_end]
/-- what is asked of a plan done -/
def Done (op : Nat) (s t : S) (n key : ByteArray) (num : Int) : Prop :=
  ∃ (k : Nat) (hk : k < t.tens.length), findI t.tens n = (k : Int) ∧
    (op ≤ 2 → (newRes t n).2 = true ∧ (newRes t n).1.txt = key ∧ t.tens[k].keys.length = (tenAt s n).keys.length + 1 ∧ t.tens[k].epoch = (tenAt s n).epoch) ∧
    (op = 3 → (keyRes t n num).2 = false ∧ t.tens[k].keys.length + 1 = (tenAt s n).keys.length) ∧
    (op = 4 → t.tens[k].epoch = (tenAt s n).epoch + 1 ∧ t.tens[k].keys.length = (tenAt s n).keys.length) ∧
    (op = 5 → t.serial = s.serial + 1) ∧ (op < 5 → t.serial = s.serial) ∧ (op ≠ 1 → t.tens.length = s.tens.length) ∧ (op = 1 → t.tens.length = s.tens.length + 1)
theorem newRes_at {t : S} {n : ByteArray} {k : Nat} {ks : List K} {x : K} (hk : k < t.tens.length) (hf : findI t.tens n = (k : Int)) (hks : t.tens[k].keys = ks ++ [x]) : newRes t n = (x, true) := by
  have h := newRes_last (s := t) (n := n) (k := ks.length) hk hf (by rw [hks]; simp) (by rw [hks]; simp)
  rw [h]
  have : t.tens[k].keys[ks.length]? = some x := by rw [hks, List.getElem?_append_right (Nat.le_refl _)]; simp
  rw [List.getElem?_eq_getElem (by rw [hks]; simp)] at this
  injection this with this
  rw [this]
end Pl
end Go.Proofs.Ytgcgilcalmefgaa
namespace Go.Proofs.Ytgcgilcalmefgaa
open Go Go.RowKit Go.Sort
set_option maxRecDepth 100000
set_option linter.unusedSimpArgs false
set_option linter.unusedVariables false
set_option maxHeartbeats 4000000
def evV (e : Rn.E) : List Value := [.int .i64 (e).kind, .string (e).ten, .int .i64 (e).num, .int .i64 (e).epoch, .string (e).txt]
theorem evV_len (e : Rn.E) : (evV e).length = 5 := rfl
theorem evV_one (e : Rn.E) : ∀ u ∈ evV e, u.oneCell' = true := fun u hu => by
  unfold evV at hu
  simp at hu
  rcases hu with rfl | rfl | rfl | rfl | rfl <;> rfl
theorem event_info : (Try.prog.info? 26).map (fun i => (i.zero, i.size, i.bytes)) = some (some (.agg #[.int .i64 0, .string ByteArray.empty, .int .i64 0, .int .i64 0, .string ByteArray.empty]), 5, 56) := by kernel_rfl
/-- a call hands back these changes, in memory of its own -/
def RetEvs (es : List Rn.E) (w : World) (e : Ending) (w' : World) : Prop :=
  ∃ (A : Option Addr) (c : Nat), e = .returned (.slice A es.length c) ∧ Fits A es.length c ∧ Below w.heap.size w w' ∧ EventsAt (fun b => w.heap.size ≤ b ∧ b < w'.heap.size) w' A es
def EvI (base : Nat) (W0 : World) (tb : Nat) (es : List Rn.E) (u : Value) (wr : World) : Prop :=
  wr.ownsRow base 26 5 u es.length (es.flatMap evV) ∧ Below base W0 wr ∧ base ≤ wr.heap.size ∧ u.ownBlock ≠ some tb
theorem evI_keep {base : Nat} {W0 : World} {tb : Nat} {es : List Rn.E} {u : Value} {wr V : World} (h : EvI base W0 tb es u wr) (hb : Below wr.heap.size wr V) : EvI base W0 tb es u V :=
  ⟨own_below h.1 hb (Nat.le_refl _), h.2.1.trans (hb.mono h.2.2.1), Nat.le_trans h.2.2.1 hb.size, h.2.2.2⟩
theorem evI_append {base : Nat} {W0 : World} {tb : Nat} {es : List Rn.E} {u v' : Value} {V w1 : World} {e : Rn.E} (h : EvI base W0 tb es u V) (htb : tb < V.heap.size) (hown : w1.ownsRow base 26 5 v' (es.length + 1) (es.flatMap evV ++ evV e)) (hg : V.grownBy w1 u.ownBlock) (hat : v'.ownBlock = u.ownBlock ∨ v'.ownBlock = some V.heap.size) :
    EvI base W0 tb (es ++ [e]) v' w1 ∧ (∀ g cs t, Blk V g cs t → u.ownBlock ≠ some g → Blk w1 g cs t) ∧ V.heap.size ≤ w1.heap.size := by
  obtain ⟨h1, h2, h3, h4⟩ := h
  refine ⟨⟨?_, h2.grown hg h3 (fun k e => (h1.lt k e).1), Nat.le_trans h3 hg.size, ?_⟩, fun g cs t hb hne => ?_, hg.size⟩
  · rw [show (es ++ [e]).length = es.length + 1 by simp, show (es ++ [e]).flatMap evV = es.flatMap evV ++ evV e by simp]
    exact hown
  · rcases hat with e | e <;> rw [e]
    · exact h4
    · intro e; injection e with e; omega
  · exact (hg.block g hb.lt (fun e => hne e.symm)).trans hb
theorem evs_end {base : Nat} {w W0 w' : World} {tb : Nat} {es : List Rn.E} {u : Value} (hb : Below w.heap.size w W0) (hbase : w.heap.size ≤ base) (hsz : ∀ e ∈ es, e.ten.size ≤ maxLen ∧ e.txt.size ≤ maxLen) (h : EvI base W0 tb es u w') : RetEvs es w (.returned u) w' := by
  obtain ⟨h1, h2, h3, h4⟩ := h
  obtain ⟨A, c, rfl, hf, hr⟩ := rows_own (n := 5) (R := eventR) (row := evV) (fun x _ => rfl) (fun x hx => ⟨rfl, hsz x hx⟩) h1
  exact ⟨A, c, rfl, hf, hb.trans (h2.mono hbase), rows_keep hr (fun _ _ _ h => h) (fun b hb => ⟨by omega, hb.2⟩) (fun b _ => rfl)⟩
theorem tens_take_len {l : List Rn.T} (hl : l.length ≤ 16) (hk : ∀ t ∈ l, t.keys.length ≤ 8) (j : Nat) : ((l.take j).flatMap Pl.tenEs).length ≤ 144 := by
  have key : ∀ m : List Rn.T, (∀ t ∈ m, t.keys.length ≤ 8) → (m.flatMap Pl.tenEs).length ≤ m.length * 9 := by
    intro m
    induction m with
    | nil => intro _; simp
    | cons t r ih =>
      intro hb
      have := hb t (by simp)
      have := ih (fun x hx => hb x (by simp [hx]))
      have e : (Pl.tenEs t).length = t.keys.length + 1 := by unfold Pl.tenEs Pl.keyEs; simp
      rw [List.flatMap_cons, List.length_append, List.length_cons, e]
      omega
  have := key (l.take j) (fun t ht => hk t (List.mem_of_mem_take ht))
  rw [List.length_take] at this
  omega
theorem pimage_bad (s : Rn.S) (A : Option Addr) (c : Nat) (G : Nat → Prop) (w : World) (hG : ∀ b, G b → b < w.heap.size) (hl : s.tens.length ≤ maxLen) (hT : TensAt G w A s.tens) (hr : Rn.right s = false) :
    Calls Try.prog 27 #[.agg #[.slice (A) (s).tens.length (c), .int .i64 (s).serial]] w (RetEvs [] w) := by
  have hb0 : Below w.heap.size w (w.alloc (.cells #[.slice (A) (s).tens.length (c), .int .i64 (s).serial] 24)) := (Below.refl _ _).alloc (Nat.le_refl _) _
  have HC := hide (pright_any s A c G _ (fun b h => Nat.lt_of_lt_of_le (hG b h) hb0.size) hl (tensAt_keep hT (fun b h => h) (kept_below hb0 hG)))
  rw [hr] at HC
  have HB0 := hid_mk hb0
  clear hb0 hG hT hr
  go_enter Try.func27, Try.ntmps27
  go_wp2_with fail
  refine (unhide HC).mono ?_
  rintro e w1 ⟨rfl, hb1⟩
  have HB1 := hid_mk (HB0.out.trans (hb1.mono HB0.out.size))
  clear hb1 HC
  go_wp2
  go_ret
  exact ⟨none, 0, rfl, Fits.none_, HB1.out, rows_nil⟩
theorem pimage_ok (s : Rn.S) (A : Option Addr) (c : Nat) (G : Nat → Prop) (w : World) (hG : ∀ b, G b → b < w.heap.size) (hl : s.tens.length ≤ maxLen) (hT : TensAt G w A s.tens) (hr : Rn.right s = true) :
    Calls Try.prog 27 #[.agg #[.slice (A) (s).tens.length (c), .int .i64 (s).serial]] w (RetEvs (Pl.imageL s) w) := by
  obtain ⟨i0, hi, hz0, hz1, hz2⟩ := info_parts event_info
  have hb0 : Below w.heap.size w (w.alloc (.cells #[.slice (A) (s).tens.length (c), .int .i64 (s).serial] 24)) := (Below.refl _ _).alloc (Nat.le_refl _) _
  have HC := hide (pright_any s A c G _ (fun b h => Nat.lt_of_lt_of_le (hG b h) hb0.size) hl (tensAt_keep hT (fun b h => h) (kept_below hb0 hG)))
  rw [hr] at HC
  have h16 := (Rn.right_parts hr).1
  have hk8 : ∀ t ∈ s.tens, t.keys.length ≤ 8 := fun t ht => (Rn.ten_parts ((Rn.right_parts hr).2.2.1 t ht)).2.2.2.1
  have hsz : ∀ e ∈ Pl.imageL s, e.ten.size ≤ maxLen ∧ e.txt.size ≤ maxLen := fun e he => by
    have hz : (⟨#[]⟩ : ByteArray).size ≤ maxLen := Nat.zero_le _
    unfold Pl.imageL at he
    rcases List.mem_append.1 he with he | he
    · obtain ⟨t, ht, he⟩ := List.mem_flatMap.1 he
      obtain ⟨i, hi, rfl⟩ := List.mem_iff_getElem.1 ht
      obtain ⟨b, o, A', c', -, -, -, -, hn, hks, -⟩ := tens_at hT hi
      rcases List.mem_cons.1 he with rfl | he
      · exact ⟨hn, hz⟩
      · obtain ⟨k, hk, rfl⟩ := List.mem_map.1 he
        obtain ⟨m, hm, rfl⟩ := List.mem_iff_getElem.1 hk
        obtain ⟨_, _, _, _, hx, _⟩ := keys_at hks hm
        exact ⟨hn, hx⟩
    · simp at he; subst he; exact ⟨hz, hz⟩
  have HB0 := hid_mk hb0
  have HX0 := hid_mk (Blk.new w #[.slice (A) (s).tens.length (c), .int .i64 (s).serial] 24)
  have HT := hid_mk hT
  have HG := hid_mk hG
  have HK8 := hid_mk hk8
  have H16 := hid_mk h16
  have HSZ := hid_mk hsz
  clear hb0 hG hT hr h16 hk8 hsz
  go_enter Try.func27, Try.ntmps27
  go_wp2_with fail
  refine (unhide HC).mono ?_
  rintro e w1 ⟨rfl, hb1⟩
  have HB1 := hid_mk (HB0.out.trans (hb1.mono HB0.out.size))
  have HX1 := hid_mk (HX0.out.call hb1)
  have hx1 := HX1.out
  have hw1 : w.heap.size < w1.heap.size := hx1.lt
  (have y0 : w1.cell? ⟨w.heap.size, 0, none⟩ = some (.slice (A) (s).tens.length (c)) := hx1.cell 0; have y1 : w1.cell? ⟨w.heap.size, 1, none⟩ = some (.int .i64 (s).serial) := hx1.cell 1; have yf : ∀ i, w1.frozen? ⟨w.heap.size, i, none⟩ = false := hx1.frozen)
  clear hb1 HC hx1 HX0 HB0
  go_wp2
  clear y0 y1 yf
  go_loopw [3, 5, 14] (fun u _ v wr => ∃ j : Nat, j ≤ s.tens.length ∧ v = .int .i64 (j : Nat) ∧ EvI w1.heap.size w1 0 ((s.tens.take j).flatMap Pl.tenEs) u wr) (fun _ _ v _ => s.tens.length - (intOf v).toNat)
  case atStart => exact ⟨0, Nat.zero_le _, rfl, World.ownsRow_nil _ _ _ _, Below.refl _ _, Nat.le_refl _, by simp [Value.ownBlock]⟩
  case round =>
    obtain ⟨j, hj, rfl, hI⟩ := hrel
    obtain ⟨Au, cu, rfl⟩ := own_slice hI.1
    have hx1 := HX1.out.call hI.2.1
    have hlen := tens_take_len H16.out HK8.out j
    have hwr : w1.heap.size ≤ wr.heap.size := hI.2.2.1
    have HXR := hid_mk hx1
    have HI := hid_mk hI
    have HLEN := hid_mk hlen
    by_cases hlt : j < s.tens.length
    case neg =>
      have hn : ¬ ((j : Int) < (s.tens.length : Int)) := by omega
      have hjl : s.tens.take j = s.tens := List.take_of_length_le (by omega)
      have HIM : Hid (Pl.imageL s = (s.tens.take j).flatMap Pl.tenEs ++ [Pl.evS s.serial]) := hid_mk (by rw [hjl]; rfl)
      (have y0 : wr.cell? ⟨w.heap.size, 0, none⟩ = some (.slice (A) (s).tens.length (c)) := hx1.cell 0; have y1 : wr.cell? ⟨w.heap.size, 1, none⟩ = some (.int .i64 (s).serial) := hx1.cell 1; have yf : ∀ i, wr.frozen? ⟨w.heap.size, i, none⟩ = false := hx1.frozen)
      clear hx1 hI hjl hlen
      generalize (s.tens.take j).flatMap Pl.tenEs = es at *
      have HNB := hid_mk (World.news_of_block (Blk.new wr (evV (Pl.evS s.serial)).toArray 26))
      have HIA := hid_mk (evI_keep HI.out ((Below.refl _ _).alloc (Nat.le_refl _) (.cells (evV (Pl.evS s.serial)).toArray 26)))
      go_wp2_with (at_builtin; refine wpList_append_own_at _ rfl _ _ 39 rfl w1.heap.size 26 i0 _ 5 56 Try.underlying39 hi hz0 hz1 hz2 rfl (by decide) _ _ (es.flatMap evV) rfl HIA.out.1 ⟨wr.heap.size, 0, none⟩ 1 1 (evV (Pl.evS s.serial)) rfl rfl ?_ ?_ ?_ ?_ ?_ ?_)
      any_goals (first | exact HNB.out | exact (fun j u h => h) | exact evV_one _ | (have := HLEN.out; unfold maxLen; simp; omega) | (have := HLEN.out; omega) | (simp; omega))
      intro v' w2 hown hgr hnil hat
      have hap := evI_append HIA.out (by simp) hown hgr (by simpa using hat)
      have HR := hid_mk (evs_end HB1.out (by omega) (by rw [← HIM.out]; exact HSZ.out) hap.1)
      clear hown hgr hnil hat hap HIA HNB
      go_wp2
      go_ret
      rw [HIM.out]
      exact HR.out
    have hTr := tensAt_keep HT.out (fun b h => h) (kept_below (HB1.out.trans (hI.2.1.mono HB1.out.size)) HG.out)
    obtain ⟨b, o, A', c', e1, hg1, hft, hsl, hsn, hks, p0, p1, p2, p3⟩ := tens_at hTr hlt
    subst e1
    have hkl := HK8.out _ (List.getElem_mem hlt)
    have htk : (s.tens.take (j + 1)).flatMap Pl.tenEs = (s.tens.take j).flatMap Pl.tenEs ++ Pl.evT s.tens[j].name s.tens[j].next s.tens[j].epoch :: Pl.keyEs s.tens[j].name s.tens[j].keys := by
      rw [List.take_succ_eq_append_getElem hlt, List.flatMap_append]; simp [Pl.tenEs]
    have HTK := hid_mk htk
    have hgb : b < w.heap.size := HG.out b hg1
    generalize s.tens[j] = t at *
    have hba : Below wr.heap.size wr (wr.alloc (.cells #[.string (t).name, .int .i64 (t).epoch, .int .i64 (t).next, .slice (A') (t).keys.length (c')] 38)) := (Below.refl _ _).alloc (Nat.le_refl _) _
    have hIt : EvI w1.heap.size w1 wr.heap.size ((s.tens.take j).flatMap Pl.tenEs) (.slice Au ((s.tens.take j).flatMap Pl.tenEs).length cu) wr := ⟨hI.1, hI.2.1, hI.2.2.1, fun e => by have := (hI.1.lt _ e).2; omega⟩
    have HIT := hid_mk (evI_keep hIt hba)
    have HBT := hid_mk (Blk.new wr #[.string (t).name, .int .i64 (t).epoch, .int .i64 (t).next, .slice (A') (t).keys.length (c')] 38)
    have HKS := hid_mk hks
    have HNU : Hid ((Value.slice Au ((s.tens.take j).flatMap Pl.tenEs).length cu).ownBlock ≠ some wr.heap.size) := hid_mk hIt.2.2.2
    have HBR := hid_mk (HB1.out.trans (hI.2.1.mono HB1.out.size))
    have h16 := H16.out
    have hjl : (j : Int) < (s.tens.length : Int) := by omega
    have hlt2 : j < s.tens.length := hlt
    have hx0 : wr.cell? ⟨w.heap.size, 0, none⟩ = some (.slice (some ⟨b, o, none⟩) s.tens.length c) := hx1.cell 0
    clear hx1 hI hTr hft hsl hsn hks htk hba hIt hlen HI HXR
    generalize (s.tens.take j).flatMap Pl.tenEs = es at *
    have HNB := hid_mk (World.news_of_block (show Blk ((wr.alloc (.cells #[.string (t).name, .int .i64 (t).epoch, .int .i64 (t).next, .slice (A') (t).keys.length (c')] 38)).alloc (.cells (evV (Pl.evT t.name t.next t.epoch)).toArray 26)) (wr.heap.size + 1) (evV (Pl.evT t.name t.next t.epoch)).toArray 26 from blk_new (by simp)))
    have HIA := hid_mk (evI_keep HIT.out ((Below.refl _ _).alloc (Nat.le_refl _) (.cells (evV (Pl.evT t.name t.next t.epoch)).toArray 26)))
    go_wp2_with (at_builtin; refine wpList_append_own_at _ rfl _ _ 39 rfl w1.heap.size 26 i0 _ 5 56 Try.underlying39 hi hz0 hz1 hz2 rfl (by decide) _ _ (es.flatMap evV) rfl HIA.out.1 ⟨wr.heap.size + 1, 0, none⟩ 1 1 (evV (Pl.evT t.name t.next t.epoch)) rfl rfl ?_ ?_ ?_ ?_ ?_ ?_)
    any_goals (first | exact HNB.out | exact (fun j u h => h) | exact evV_one _ | (have := HLEN.out; unfold maxLen; simp; omega) | (have := HLEN.out; omega) | (simp; omega))
    intro v1 w2 hown hgr hnil hat
    have hap := evI_append HIA.out (by simp; omega) hown hgr (by simpa using hat)
    obtain ⟨A1, c1, rfl⟩ := own_slice hown
    have hbt := hap.2.1 _ _ _ (HBT.out.alloc (.cells (evV (Pl.evT t.name t.next t.epoch)).toArray 26)) HNU.out
    have hsz2 : wr.heap.size + 2 ≤ w2.heap.size := by have := hap.2.2; simp at this; omega
    have HI2 : Hid (EvI w1.heap.size w1 wr.heap.size (es ++ [Pl.evT t.name t.next t.epoch]) (.slice A1 (es.length + 1) c1) w2) := hid_mk hap.1
    have HBT2 := hid_mk hbt
    have hb3 : w2.cell? ⟨wr.heap.size, 3, none⟩ = some (.slice A' t.keys.length c') := hbt.cell 3
    obtain ⟨wo, hwo⟩ : ∃ wo, wo = wr := ⟨_, rfl⟩
    subst hwo
    clear hown hgr hnil hat hap hbt HIA HNB HIT HBT HNU
    go_wp2
    clear hb3
    go_loopw [3, 7, 31] (fun u _ v wr => ∃ m : Nat, m ≤ t.keys.length ∧ v = .int .i64 (m : Nat) ∧ EvI w1.heap.size w1 wo.heap.size (es ++ Pl.evT t.name t.next t.epoch :: Pl.keyEs t.name (t.keys.take m)) u wr ∧ Blk wr wo.heap.size #[.string (t).name, .int .i64 (t).epoch, .int .i64 (t).next, .slice (A') (t).keys.length (c')] 38 ∧ wo.heap.size + 2 ≤ wr.heap.size) (fun _ _ v _ => t.keys.length - (intOf v).toNat)
    case atStart => exact ⟨0, Nat.zero_le _, rfl, HI2.out, HBT2.out, hsz2⟩
    case round =>
      obtain ⟨m, hm, rfl, hI, hbt, hwi⟩ := hrel
      obtain ⟨Av, cv, rfl⟩ := own_slice hI.1
      have HI := hid_mk hI
      have HBT := hid_mk hbt
      clear HI2 HBT2
      have hl2 : (es ++ Pl.evT t.name t.next t.epoch :: Pl.keyEs t.name (t.keys.take m)).length ≤ 200 := by
        have := HLEN.out
        unfold Pl.keyEs
        rw [List.length_append, List.length_cons, List.length_map, List.length_take]
        omega
      by_cases hmt : m < t.keys.length
      case neg =>
        have hn : ¬ ((m : Int) < (t.keys.length : Int)) := by omega
        have hjm : t.keys.take m = t.keys := List.take_of_length_le (by omega)
        have HX : Hid (∃ j' : Nat, j' ≤ s.tens.length ∧ Value.int .i64 ((j : Int) + 1) = .int .i64 (j' : Nat) ∧ EvI w1.heap.size w1 0 ((s.tens.take j').flatMap Pl.tenEs) (.slice Av (es ++ Pl.evT t.name t.next t.epoch :: Pl.keyEs t.name (t.keys.take m)).length cv) wr) := hid_mk ⟨j + 1, by omega, by rw [show ((j + 1 : Nat) : Int) = (j : Int) + 1 by omega], by
          rw [HTK.out]
          rw [hjm] at hI ⊢
          exact ⟨hI.1, hI.2.1, hI.2.2.1, fun e => by have := (hI.1.lt _ e).1; omega⟩⟩
        clear hI hbt hjm hl2
        generalize es ++ Pl.evT t.name t.next t.epoch :: Pl.keyEs t.name (t.keys.take m) = es2 at *
        go_wp2
        go_roundw
        case rel => exact HX.out
        case measure => simp [intOf]; omega
      have hKr := keysAt_keep HKS.out (fun b h => h) (w' := wr) (fun b hb => ((HB1.out.trans (hI.2.1.mono HB1.out.size)).block b (HG.out b hb)).trans (HBR.out.block b (HG.out b hb)).symm)
      obtain ⟨b3, o3, e3, hg3, hkx, q0, q1⟩ := keys_at hKr hmt
      subst e3
      have hkt : t.keys.take (m + 1) = t.keys.take m ++ [t.keys[m]] := List.take_succ_eq_append_getElem hmt
      have HKT : Hid (es ++ Pl.evT t.name t.next t.epoch :: Pl.keyEs t.name (t.keys.take (m + 1)) = (es ++ Pl.evT t.name t.next t.epoch :: Pl.keyEs t.name (t.keys.take m)) ++ [Pl.evK t.name t.keys[m].num t.keys[m].txt]) := hid_mk (by rw [hkt]; unfold Pl.keyEs; rw [List.map_append]; simp only [List.map_cons, List.map_nil, List.append_assoc, List.cons_append])
      generalize t.keys[m] = k at *
      have hml : (m : Int) < (t.keys.length : Int) := by omega
      have hmt2 : m < t.keys.length := hmt
      have hlo : wo.heap.size < wr.heap.size := by omega
      have hbt0 : wr.cell? ⟨wo.heap.size, 0, none⟩ = some (.string t.name) := hbt.cell 0
      have HL2 := hid_mk hl2
      clear hKr hkt hI hbt hl2
      generalize es ++ Pl.evT t.name t.next t.epoch :: Pl.keyEs t.name (t.keys.take m) = es2 at *
      have HNB := hid_mk (World.news_of_block (show Blk ((wr.alloc (.cells #[.int .i64 (k).num, .string (k).txt] 44)).alloc (.cells (evV (Pl.evK t.name k.num k.txt)).toArray 26)) (wr.heap.size + 1) (evV (Pl.evK t.name k.num k.txt)).toArray 26 from blk_new (by simp)))
      have HIA := hid_mk (evI_keep HI.out (((Below.refl _ _).alloc (Nat.le_refl _) (.cells #[.int .i64 (k).num, .string (k).txt] 44)).alloc (by simp) (.cells (evV (Pl.evK t.name k.num k.txt)).toArray 26)))
      go_wp2_with (at_builtin; refine wpList_append_own_at _ rfl _ _ 39 rfl w1.heap.size 26 i0 _ 5 56 Try.underlying39 hi hz0 hz1 hz2 rfl (by decide) _ _ (es2.flatMap evV) rfl HIA.out.1 ⟨wr.heap.size + 1, 0, none⟩ 1 1 (evV (Pl.evK t.name k.num k.txt)) rfl rfl ?_ ?_ ?_ ?_ ?_ ?_)
      any_goals (first | exact HNB.out | exact (fun j u h => h) | exact evV_one _ | (have := HL2.out; unfold maxLen; simp; omega) | (have := HL2.out; omega) | (simp; omega))
      intro v2 w3 hown hgr hnil hat
      have hap := evI_append HIA.out (by simp; omega) hown hgr (by simpa using hat)
      obtain ⟨A2, c2, rfl⟩ := own_slice hown
      have hbt2 := hap.2.1 _ _ _ ((HBT.out.alloc (.cells #[.int .i64 (k).num, .string (k).txt] 44)).alloc (.cells (evV (Pl.evK t.name k.num k.txt)).toArray 26)) HI.out.2.2.2
      have HX : Hid (∃ m' : Nat, m' ≤ t.keys.length ∧ Value.int .i64 ((m : Int) + 1) = .int .i64 (m' : Nat) ∧ EvI w1.heap.size w1 wo.heap.size (es ++ Pl.evT t.name t.next t.epoch :: Pl.keyEs t.name (t.keys.take m')) (.slice A2 (es2.length + 1) c2) w3 ∧ Blk w3 wo.heap.size #[.string (t).name, .int .i64 (t).epoch, .int .i64 (t).next, .slice ((some ⟨b3, o3, none⟩)) (t).keys.length (c')] 38 ∧ wo.heap.size + 2 ≤ w3.heap.size) :=
        hid_mk ⟨m + 1, by omega, by rw [show ((m + 1 : Nat) : Int) = (m : Int) + 1 by omega], by rw [HKT.out]; exact hap.1, hbt2, by have := hap.2.2; simp at this; omega⟩
      clear hown hgr hnil hat hap hbt2 HIA HNB HI HBT
      go_wp2
      go_roundw
      case rel => exact HX.out
      case measure => simp [intOf]; omega
end Go.Proofs.Ytgcgilcalmefgaa
namespace Go.Proofs.Ytgcgilcalmefgaa
open Go Go.RowKit Go.Sort
set_option maxRecDepth 100000
set_option linter.unusedSimpArgs false
set_option linter.unusedVariables false
set_option maxHeartbeats 4000000
/-- a call hands back these changes, in memory of its own, and this errno -/
def RetPl (es : List Rn.E) (err : Int) (w : World) (e : Ending) (w' : World) : Prop :=
  ∃ (A : Option Addr) (c : Nat), e = .returned (.tuple #[.slice A es.length c, .int .i64 err]) ∧ Fits A es.length c ∧ Below w.heap.size w w' ∧ EventsAt (fun b => w.heap.size ≤ b ∧ b < w'.heap.size) w' A es
theorem of1_ok (p7 p6 : Addr) (u : FrameMode) (w : World) (h : w.cell? p7 = some (.int .i64 0)) :
    CallsD Try.prog 70 #[.pointer (some p7), .pointer (some p6)] u w fun e u' w' => u' = u ∧ (e = .returned (.tuple #[]) ∧ w' = w) := by
  go_enter_d Try.func70, Try.ntmps70
  go_wp2
  go_end0
  exact ⟨rfl, rfl⟩
theorem of1_err (p7 p6 : Addr) (err : Int) (v : Value) (u : FrameMode) (w : World) (h : w.cell? p7 = some (.int .i64 err)) (hn : err ≠ 0) (h6 : w.cell? p6 = some v) (hf : w.frozen? p6 = false) :
    CallsD Try.prog 70 #[.pointer (some p7), .pointer (some p6)] u w fun e u' w' => u' = u ∧ (e = .returned (.tuple #[]) ∧ w' = w.setCell p6 (.slice none 0 0)) := by
  go_enter_d Try.func70, Try.ntmps70
  go_wp2
  go_end0
  exact ⟨rfl, rfl⟩
theorem of_results (tmps : Array Value) (V : World) (a6 a7 : Addr) (A : Option Addr) (n c : Nat) (err : Int) (h6 : tmps.getD 6 undef = .pointer (some a6)) (h7 : tmps.getD 7 undef = .pointer (some a7)) (c6 : V.cell? a6 = some (.slice A n c)) (c7 : V.cell? a7 = some (.int .i64 err)) :
    (results Try.f58 tmps).run Try.prog V = .ok (.tuple #[.slice A n c, .int .i64 err]) V := by
  have e6 : tmps[6]?.getD undef = .pointer (some a6) := by simpa using h6
  have e7 : tmps[7]?.getD undef = .pointer (some a7) := by simpa using h7
  simp [results, Try.results58, go_sem, e6, e7, c6, c7]
theorem of_door (tmps : Array Value) (V w : World) (g : Nat) (es : List Rn.E) (err : Int) (A : Option Addr) (c : Nat) (h6 : tmps.getD 6 undef = .pointer (some ⟨g, 0, none⟩)) (h7 : tmps.getD 7 undef = .pointer (some ⟨g + 1, 0, none⟩))
    (hB6 : Blk V g #[.slice A es.length c] 39) (hB7 : Blk V (g + 1) #[.int .i64 err] 29) (hb : Below w.heap.size w V) (hg : w.heap.size ≤ g) (hfit : Fits A es.length c) (hE : EventsAt (fun b => w.heap.size ≤ b ∧ b < V.heap.size ∧ b ≠ g) V A es) (hz : err ≠ 0 → es = []) :
    bodyPostD Try.prog Try.f58 (RetPl es err w) Exit.ret { tmps := tmps, defers := [{ target := Target.fn (Fn.func 70) #[.pointer (some ⟨g + 1, 0, none⟩), .pointer (some ⟨g, 0, none⟩)], args := #[] }] } V := by
  refine leaves_cons (f := 70) (args := #[.pointer (some ⟨g + 1, 0, none⟩), .pointer (some ⟨g, 0, none⟩)]) (by simp) (by simp [go_sem]) ?_
  by_cases h0 : err = 0
  · subst h0
    refine (of1_ok ⟨g + 1, 0, none⟩ ⟨g, 0, none⟩ .returning V (hB7.cell 0)).mono ?_
    rintro e u' w'' ⟨rfl, rfl, rfl⟩
    refine ⟨_, of_results tmps _ ⟨g, 0, none⟩ ⟨g + 1, 0, none⟩ A es.length c 0 h6 h7 (hB6.cell 0) (hB7.cell 0), A, c, rfl, hfit, hb, ?_⟩
    exact rows_keep hE (fun _ _ _ h => h) (fun b h => ⟨h.1, h.2.1⟩) (fun b _ => rfl)
  · refine (of1_err ⟨g + 1, 0, none⟩ ⟨g, 0, none⟩ err _ .returning V (hB7.cell 0) h0 (hB6.cell 0) (hB6.frozen 0)).mono ?_
    rintro e u' w'' ⟨rfl, rfl, rfl⟩
    have he := hz h0
    subst he
    have h6' := hB6.put 0 (.slice none 0 0)
    have h7' := hB7.far (p := ⟨g, 0, none⟩) (by show g + 1 ≠ g; omega) (.slice none 0 0)
    refine ⟨_, of_results tmps _ ⟨g, 0, none⟩ ⟨g + 1, 0, none⟩ none 0 0 err h6 h7 (h6'.cell 0) (h7'.cell 0), none, 0, rfl, Fits.none_, hb.setCell hg _, rows_nil⟩
theorem of_bad (s : Rn.S) (A : Option Addr) (c : Nat) (n : ByteArray) (fv : Value) (G : Nat → Prop) (w : World) (hG : ∀ b, G b → b < w.heap.size) (hl : s.tens.length ≤ maxLen) (hT : TensAt G w A s.tens) (hr : Rn.right s = false) :
    Calls Try.prog 58 #[.agg #[.slice (A) (s).tens.length (c), .int .i64 (s).serial], .string n, fv] w (RetPl [] 7 w) := by
  have hmf : ∀ (fn : Fn) (first cap : Array Value) (w : World), (Instr.makeFunc fn first cap).run Try.prog w = .ok (.func fn first cap) w := fun _ _ _ _ => rfl
  obtain ⟨W0, hW0⟩ : ∃ W0, W0 = ((w.alloc (.cells #[.slice (A) (s).tens.length (c), .int .i64 (s).serial] 24)).alloc (.cells #[.slice none 0 0] 39)).alloc (.cells #[.int .i64 0] 29) := ⟨_, rfl⟩
  have hb0 : Below w.heap.size w W0 := by rw [hW0]; exact (((Below.refl _ _).alloc (Nat.le_refl _) _).alloc (by simp) _).alloc (by simp; omega) _
  have hB6 : Blk W0 (w.heap.size + 1) #[.slice none 0 0] 39 := by rw [hW0]; exact (blk_new (by simp)).alloc _
  have hB7 : Blk W0 (w.heap.size + 2) #[.int .i64 0] 29 := by rw [hW0]; exact blk_new (by simp)
  have hB3 : Blk W0 w.heap.size #[.slice (A) (s).tens.length (c), .int .i64 (s).serial] 24 := by rw [hW0]; exact ((Blk.new w _ _).alloc _).alloc _
  have HC := hide (pright_any s A c G W0 (fun b h => Nat.lt_of_lt_of_le (hG b h) hb0.size) hl (tensAt_keep hT (fun b h => h) (kept_below hb0 hG)))
  rw [hr] at HC
  have HB0 := hid_mk hb0
  have H6 := hid_mk hB6
  have H7 := hid_mk hB7
  have HW0 := hid_mk hW0
  (have y0 : W0.cell? ⟨w.heap.size, 0, none⟩ = some (.slice (A) (s).tens.length (c)) := hB3.cell 0; have y1 : W0.cell? ⟨w.heap.size, 1, none⟩ = some (.int .i64 (s).serial) := hB3.cell 1; have yf : ∀ i, W0.frozen? ⟨w.heap.size, i, none⟩ = false := hB3.frozen)
  clear hb0 hG hT hr hB6 hB7 hB3 hW0
  go_enter_defers Try.func58, Try.ntmps58
  go_wp2_with fail
  rw [← HW0.out]
  refine (unhide HC).mono ?_
  rintro e w1 ⟨rfl, hb1⟩
  have HB1 := hid_mk (HB0.out.trans (hb1.mono HB0.out.size))
  have hx6 := H6.out.call hb1
  have hx7 := H7.out.call hb1
  have h61 := hx6.cell 0
  have h62 := fun r => hx6.frozen r
  have h71 := hx7.cell 0
  have h72 := fun r => hx7.frozen r
  clear hb1 HC H6 H7 HW0 HB0 y0 y1 yf
  go_wp2
  have hc6 : Blk _ (w.heap.size + 1) #[.slice none 0 0] 39 := ((hx6.put 0 (.slice none 0 0)).far (p := ⟨w.heap.size + 1 + 1, 0, none⟩) (by show w.heap.size + 1 ≠ w.heap.size + 1 + 1; omega) (.int .i64 7)).is (by simp)
  have hc7 : Blk _ (w.heap.size + 1 + 1) #[.int .i64 7] 29 := ((hx7.far (p := ⟨w.heap.size + 1, 0, none⟩) (by show w.heap.size + 2 ≠ w.heap.size + 1; omega) (.slice none 0 0)).put 0 (.int .i64 7)).is (by simp)
  exact of_door _ _ w (w.heap.size + 1) [] 7 none 0 rfl rfl hc6 hc7 (by first | exact ((HB1.out.setCell (by show w.heap.size ≤ w.heap.size + 1; omega) _).setCell (by show w.heap.size ≤ w.heap.size + 1 + 1; omega) _)) (by omega) Fits.none_ rows_nil (fun _ => rfl)
theorem of_none (s : Rn.S) (A : Option Addr) (c : Nat) (n : ByteArray) (fv : Value) (G : Nat → Prop) (w : World) (hG : ∀ b, G b → b < w.heap.size) (hl : s.tens.length ≤ maxLen) (hT : TensAt G w A s.tens) (hr : Rn.right s = true) (hat : findI s.tens n < 0) :
    Calls Try.prog 58 #[.agg #[.slice (A) (s).tens.length (c), .int .i64 (s).serial], .string n, fv] w (RetPl [] 6 w) := by
  have hmf : ∀ (fn : Fn) (first cap : Array Value) (w : World), (Instr.makeFunc fn first cap).run Try.prog w = .ok (.func fn first cap) w := fun _ _ _ _ => rfl
  obtain ⟨W0, hW0⟩ : ∃ W0, W0 = ((w.alloc (.cells #[.slice (A) (s).tens.length (c), .int .i64 (s).serial] 24)).alloc (.cells #[.slice none 0 0] 39)).alloc (.cells #[.int .i64 0] 29) := ⟨_, rfl⟩
  have hb0 : Below w.heap.size w W0 := by rw [hW0]; exact (((Below.refl _ _).alloc (Nat.le_refl _) _).alloc (by simp) _).alloc (by simp; omega) _
  have hB6 : Blk W0 (w.heap.size + 1) #[.slice none 0 0] 39 := by rw [hW0]; exact (blk_new (by simp)).alloc _
  have hB7 : Blk W0 (w.heap.size + 2) #[.int .i64 0] 29 := by rw [hW0]; exact blk_new (by simp)
  have hB3 : Blk W0 w.heap.size #[.slice (A) (s).tens.length (c), .int .i64 (s).serial] 24 := by rw [hW0]; exact ((Blk.new w _ _).alloc _).alloc _
  have HC := hide (pright_any s A c G W0 (fun b h => Nat.lt_of_lt_of_le (hG b h) hb0.size) hl (tensAt_keep hT (fun b h => h) (kept_below hb0 hG)))
  rw [hr] at HC
  have HCF := hide (fun (V : World) (hb : Below w.heap.size w V) => pfind_any s A c n G V (fun b h => Nat.lt_of_lt_of_le (hG b h) hb.size) hl (tensAt_keep hT (fun b h => h) (kept_below hb hG)))
  have HB0 := hid_mk hb0
  have H3 := hid_mk hB3
  have H6 := hid_mk hB6
  have H7 := hid_mk hB7
  have HW0 := hid_mk hW0
  (have y0 : W0.cell? ⟨w.heap.size, 0, none⟩ = some (.slice (A) (s).tens.length (c)) := hB3.cell 0; have y1 : W0.cell? ⟨w.heap.size, 1, none⟩ = some (.int .i64 (s).serial) := hB3.cell 1; have yf : ∀ i, W0.frozen? ⟨w.heap.size, i, none⟩ = false := hB3.frozen)
  clear hb0 hG hT hr hB6 hB7 hB3 hW0
  go_enter_defers Try.func58, Try.ntmps58
  go_wp2_with fail
  rw [← HW0.out]
  refine (unhide HC).mono ?_
  rintro e w1 ⟨rfl, hb1⟩
  have HB1 := hid_mk (HB0.out.trans (hb1.mono HB0.out.size))
  have hx3 := H3.out.call hb1
  have HX6 := hid_mk (H6.out.call hb1)
  have HX7 := hid_mk (H7.out.call hb1)
  clear hb1 HC H6 H7 HW0 HB0 H3 y0 y1 yf
  (have y0 : w1.cell? ⟨w.heap.size, 0, none⟩ = some (.slice (A) (s).tens.length (c)) := hx3.cell 0; have y1 : w1.cell? ⟨w.heap.size, 1, none⟩ = some (.int .i64 (s).serial) := hx3.cell 1; have yf : ∀ i, w1.frozen? ⟨w.heap.size, i, none⟩ = false := hx3.frozen)
  clear hx3
  go_wp2_with fail
  refine (unhide HCF w1 HB1.out).mono ?_
  rintro e w2 ⟨rfl, hb2⟩
  have HB2 := hid_mk (HB1.out.trans (hb2.mono HB1.out.size))
  have hx6 := HX6.out.call hb2
  have hx7 := HX7.out.call hb2
  have h61 := hx6.cell 0
  have h62 := fun r => hx6.frozen r
  have h71 := hx7.cell 0
  have h72 := fun r => hx7.frozen r
  clear hb2 HCF HX6 HX7 y0 y1 yf
  go_wp2
  have hc6 : Blk _ (w.heap.size + 1) #[.slice none 0 0] 39 := ((hx6.put 0 (.slice none 0 0)).far (p := ⟨w.heap.size + 1 + 1, 0, none⟩) (by show w.heap.size + 1 ≠ w.heap.size + 1 + 1; omega) (.int .i64 6)).is (by simp)
  have hc7 : Blk _ (w.heap.size + 1 + 1) #[.int .i64 6] 29 := ((hx7.far (p := ⟨w.heap.size + 1, 0, none⟩) (by show w.heap.size + 2 ≠ w.heap.size + 1; omega) (.slice none 0 0)).put 0 (.int .i64 6)).is (by simp)
  exact of_door _ _ w (w.heap.size + 1) [] 6 none 0 rfl rfl hc6 hc7 (by first | exact ((HB2.out.setCell (by show w.heap.size ≤ w.heap.size + 1; omega) _).setCell (by show w.heap.size ≤ w.heap.size + 1 + 1; omega) _)) (by omega) Fits.none_ rows_nil (fun _ => rfl)
theorem of_ok (s : Rn.S) (A : Option Addr) (c : Nat) (n : ByteArray) (fid : FuncId) (caps : Array Value) (es : List Rn.E) (err : Int) (G : Nat → Prop) (w : World) (hG : ∀ b, G b → b < w.heap.size) (hl : s.tens.length ≤ maxLen) (hT : TensAt G w A s.tens) (hr : Rn.right s = true) (i : Nat) (hi : i < s.tens.length) (hat : findI s.tens n = (i : Int)) (hcf : ∀ (args : Array Value) (V : World), (callFunc fid args).run Try.prog V = .ok (.enter fid args) V) (hz : err ≠ 0 → es = [])
    (HF : ∀ (V : World) (A' : Option Addr) (c' : Nat), Below w.heap.size w V → s.tens[i].name.size ≤ maxLen → s.tens[i].keys.length ≤ maxLen → KeysAt G V A' s.tens[i].keys → Calls Try.prog fid (#[.agg #[.string (s.tens[i]).name, .int .i64 (s.tens[i]).epoch, .int .i64 (s.tens[i]).next, .slice (A') (s.tens[i]).keys.length (c')]] ++ caps) V (RetPl es err V)) :
    Calls Try.prog 58 #[.agg #[.slice (A) (s).tens.length (c), .int .i64 (s).serial], .string n, .func (.func fid) #[] caps] w (RetPl es err w) := by
  have hmf : ∀ (fn : Fn) (first cap : Array Value) (w : World), (Instr.makeFunc fn first cap).run Try.prog w = .ok (.func fn first cap) w := fun _ _ _ _ => rfl
  obtain ⟨W0, hW0⟩ : ∃ W0, W0 = ((w.alloc (.cells #[.slice (A) (s).tens.length (c), .int .i64 (s).serial] 24)).alloc (.cells #[.slice none 0 0] 39)).alloc (.cells #[.int .i64 0] 29) := ⟨_, rfl⟩
  have hb0 : Below w.heap.size w W0 := by rw [hW0]; exact (((Below.refl _ _).alloc (Nat.le_refl _) _).alloc (by simp) _).alloc (by simp; omega) _
  have hB6 : Blk W0 (w.heap.size + 1) #[.slice none 0 0] 39 := by rw [hW0]; exact (blk_new (by simp)).alloc _
  have hB7 : Blk W0 (w.heap.size + 2) #[.int .i64 0] 29 := by rw [hW0]; exact blk_new (by simp)
  have hB3 : Blk W0 w.heap.size #[.slice (A) (s).tens.length (c), .int .i64 (s).serial] 24 := by rw [hW0]; exact ((Blk.new w _ _).alloc _).alloc _
  have HC := hide (pright_any s A c G W0 (fun b h => Nat.lt_of_lt_of_le (hG b h) hb0.size) hl (tensAt_keep hT (fun b h => h) (kept_below hb0 hG)))
  rw [hr] at HC
  have HT := hid_mk hT
  have HG := hid_mk hG
  have HF := hid_mk HF
  have HCF := hide (fun (V : World) (hb : Below w.heap.size w V) => pfind_any s A c n G V (fun b h => Nat.lt_of_lt_of_le (hG b h) hb.size) hl (tensAt_keep hT (fun b h => h) (kept_below hb hG)))
  have HB0 := hid_mk hb0
  have H3 := hid_mk hB3
  have H6 := hid_mk hB6
  have H7 := hid_mk hB7
  have HW0 := hid_mk hW0
  (have y0 : W0.cell? ⟨w.heap.size, 0, none⟩ = some (.slice (A) (s).tens.length (c)) := hB3.cell 0; have y1 : W0.cell? ⟨w.heap.size, 1, none⟩ = some (.int .i64 (s).serial) := hB3.cell 1; have yf : ∀ i, W0.frozen? ⟨w.heap.size, i, none⟩ = false := hB3.frozen)
  clear hb0 hG hT hr hB6 hB7 hB3 hW0
  go_enter_defers Try.func58, Try.ntmps58
  go_wp2_with fail
  rw [← HW0.out]
  refine (unhide HC).mono ?_
  rintro e w1 ⟨rfl, hb1⟩
  have HB1 := hid_mk (HB0.out.trans (hb1.mono HB0.out.size))
  have hx3 := H3.out.call hb1
  have HX3 := hid_mk hx3
  have HX6 := hid_mk (H6.out.call hb1)
  have HX7 := hid_mk (H7.out.call hb1)
  clear hb1 HC H6 H7 HW0 HB0 H3 y0 y1 yf
  (have y0 : w1.cell? ⟨w.heap.size, 0, none⟩ = some (.slice (A) (s).tens.length (c)) := hx3.cell 0; have y1 : w1.cell? ⟨w.heap.size, 1, none⟩ = some (.int .i64 (s).serial) := hx3.cell 1; have yf : ∀ i, w1.frozen? ⟨w.heap.size, i, none⟩ = false := hx3.frozen)
  clear hx3
  go_wp2_with fail
  refine (unhide HCF w1 HB1.out).mono ?_
  rintro e w2 ⟨rfl, hb2⟩
  have HB2 := hid_mk (HB1.out.trans (hb2.mono HB1.out.size))
  have hx3 := HX3.out.call hb2
  have HX6b := hid_mk (HX6.out.call hb2)
  have HX7b := hid_mk (HX7.out.call hb2)
  obtain ⟨b, o, A', c', e1, hg1, hft, hsl, hsn, hks, p0, p1, p2, p3⟩ := tens_at (tensAt_keep HT.out (fun b h => h) (kept_below HB2.out HG.out)) hi
  subst e1
  have HCT := hide (HF.out w2 A' c' HB2.out hsn hsl hks)
  have hil : (i : Int) < (s.tens.length : Int) := by omega
  clear hb2 HCF HX6 HX7 hft hsl hsn hks y0 y1 yf
  (have y0 : w2.cell? ⟨w.heap.size, 0, none⟩ = some (.slice ((some ⟨b, o, none⟩)) (s).tens.length (c)) := hx3.cell 0; have y1 : w2.cell? ⟨w.heap.size, 1, none⟩ = some (.int .i64 (s).serial) := hx3.cell 1; have yf : ∀ i, w2.frozen? ⟨w.heap.size, i, none⟩ = false := hx3.frozen)
  rw [hat]
  have HZ := hid_mk hz
  clear hx3 hat hz
  generalize s.tens[i] = t at *
  go_wp2_with fail
  refine (unhide HCT).mono ?_
  rintro e w3 ⟨Ar, cr, rfl, hfr, hb3, hE⟩
  have HB3 := hid_mk (HB2.out.trans (hb3.mono HB2.out.size))
  have HE := hid_mk hE
  have HFR := hid_mk hfr
  have HSZ := hid_mk (show w.heap.size + 3 ≤ w2.heap.size by have := HX7b.out.lt; omega)
  have hx6 := HX6b.out.call hb3
  have hx7 := HX7b.out.call hb3
  have h61 := hx6.cell 0
  have h62 := fun r => hx6.frozen r
  have h71 := hx7.cell 0
  have h72 := fun r => hx7.frozen r
  clear hb3 HCT HX6b HX7b y0 y1 yf hE hfr
  go_wp2
  have hc6 : Blk _ (w.heap.size + 1) #[.slice Ar es.length cr] 39 := ((hx6.put 0 (.slice Ar es.length cr)).far (p := ⟨w.heap.size + 1 + 1, 0, none⟩) (by show w.heap.size + 1 ≠ w.heap.size + 1 + 1; omega) (.int .i64 err)).is (by simp)
  have hc7 : Blk _ (w.heap.size + 1 + 1) #[.int .i64 err] 29 := ((hx7.far (p := ⟨w.heap.size + 1, 0, none⟩) (by show w.heap.size + 2 ≠ w.heap.size + 1; omega) (.slice Ar es.length cr)).put 0 (.int .i64 err)).is (by simp)
  have hsz := HSZ.out
  have hfin := (HB3.out.setCell (p := ⟨w.heap.size + 1, 0, none⟩) (by show w.heap.size ≤ w.heap.size + 1; omega) (.slice Ar es.length cr)).setCell (p := ⟨w.heap.size + 1 + 1, 0, none⟩) (by show w.heap.size ≤ w.heap.size + 1 + 1; omega) (.int .i64 err)
  refine of_door _ _ w (w.heap.size + 1) es err Ar cr rfl rfl hc6 hc7 hfin (by omega) HFR.out ?_ HZ.out
  exact rows_keep HE.out (fun _ _ _ h => h) (fun b hb => ⟨by omega, by simpa using hb.2, by omega⟩) (fun b hb => by
    refine (Below.heap_setCell _ _ _ _ ?_).trans (Below.heap_setCell _ _ _ _ ?_)
    · show b ≠ w.heap.size + 1 + 1; omega
    · show b ≠ w.heap.size + 1; omega)
end Go.Proofs.Ytgcgilcalmefgaa
namespace Go.Proofs.Ytgcgilcalmefgaa
open Go Go.RowKit Go.Sort
set_option maxRecDepth 100000
set_option linter.unusedSimpArgs false
set_option linter.unusedVariables false
set_option maxHeartbeats 4000000
theorem evs1 {G : Nat → Prop} {V : World} {g t : Nat} {e : Rn.E} (hb : Blk V g (evV e).toArray t) (hG : G g) (h1 : e.ten.size ≤ maxLen) (h2 : e.txt.size ≤ maxLen) : EventsAt G V (some ⟨g, 0, none⟩) [e] := fun _ =>
  ⟨g, 0, rfl, hG, fun k hk => by
    have e0 : k = 0 := by simpa using hk
    subst e0
    refine ⟨evV e, ⟨rfl, h1, h2⟩, fun j u h => ?_⟩
    rw [show (0 + 0 * 5 + j : Nat) = j by omega, hb.cell j]
    simpa using h⟩
theorem evs2 {G : Nat → Prop} {V : World} {g t : Nat} {e f : Rn.E} (hb : Blk V g (evV e ++ evV f).toArray t) (hG : G g) (h1 : e.ten.size ≤ maxLen) (h2 : e.txt.size ≤ maxLen) (h3 : f.ten.size ≤ maxLen) (h4 : f.txt.size ≤ maxLen) : EventsAt G V (some ⟨g, 0, none⟩) [e, f] := fun _ =>
  ⟨g, 0, rfl, hG, fun k hk => by
    have hk2 : k < 2 := by simpa using hk
    rcases (show k = 0 ∨ k = 1 by omega) with rfl | rfl
    · refine ⟨evV e, ⟨rfl, h1, h2⟩, fun j u h => ?_⟩
      have hj : j < 5 := by have := (List.getElem?_eq_some_iff.1 h).1; simpa [evV_len] using this
      rw [show (0 + 0 * 5 + j : Nat) = j by omega, hb.cell j]
      rw [List.getElem?_toArray, List.getElem?_append_left (by rw [evV_len]; exact hj)]
      exact h
    · refine ⟨evV f, ⟨rfl, h3, h4⟩, fun j u h => ?_⟩
      rw [show (0 + 1 * 5 + j : Nat) = 5 + j by omega, hb.cell (5 + j)]
      rw [List.getElem?_toArray, List.getElem?_append_right (by rw [evV_len]; omega), evV_len, show 5 + j - 5 = j by omega]
      exact h⟩
theorem retPl_bad (err : Int) {w w' : World} (hb : Below w.heap.size w w') : RetPl [] err w (.returned (.tuple #[.slice none 0 0, .int .i64 err])) w' := ⟨none, 0, rfl, Fits.none_, hb, rows_nil⟩
theorem rot1_len (t : Rn.T) (A : Option Addr) (c : Nat) (key n : ByteArray) (p1 p2 : Nat) (w : World) (h1 : w.cell? ⟨p1, 0, none⟩ = some (.string key)) (h2 : w.cell? ⟨p2, 0, none⟩ = some (.string n)) (l1 : p1 < w.heap.size) (l2 : p2 < w.heap.size) (hk : ¬ (key.size : Int) = 32) :
    Calls Try.prog 60 (#[.agg #[.string (t).name, .int .i64 (t).epoch, .int .i64 (t).next, .slice (A) (t).keys.length (c)]] ++ #[.pointer (some ⟨p1, 0, none⟩), .pointer (some ⟨p2, 0, none⟩)]) w (RetPl [] 7 w) := by
  have HB := hid_mk (show Below w.heap.size w (w.alloc (.cells #[.string (t).name, .int .i64 (t).epoch, .int .i64 (t).next, .slice (A) (t).keys.length (c)] 38)) from (Below.refl _ _).alloc (Nat.le_refl _) _)
  go_enter Try.func60, Try.ntmps60
  go_wp2
  exact bodyPost_ret (v := .tuple #[.slice none 0 0, .int .i64 7]) (by simp [results, Try.results60, go_sem]) rfl (retPl_bad 7 HB.out)
theorem rot1_full (t : Rn.T) (A : Option Addr) (c : Nat) (key n : ByteArray) (p1 p2 : Nat) (w : World) (h1 : w.cell? ⟨p1, 0, none⟩ = some (.string key)) (h2 : w.cell? ⟨p2, 0, none⟩ = some (.string n)) (l1 : p1 < w.heap.size) (l2 : p2 < w.heap.size) (hk : (key.size : Int) = 32) (h8 : (t.keys.length : Int) = 8) :
    Calls Try.prog 60 (#[.agg #[.string (t).name, .int .i64 (t).epoch, .int .i64 (t).next, .slice (A) (t).keys.length (c)]] ++ #[.pointer (some ⟨p1, 0, none⟩), .pointer (some ⟨p2, 0, none⟩)]) w (RetPl [] 3 w) := by
  have HB := hid_mk (show Below w.heap.size w (w.alloc (.cells #[.string (t).name, .int .i64 (t).epoch, .int .i64 (t).next, .slice (A) (t).keys.length (c)] 38)) from (Below.refl _ _).alloc (Nat.le_refl _) _)
  go_enter Try.func60, Try.ntmps60
  go_wp2
  exact bodyPost_ret (v := .tuple #[.slice none 0 0, .int .i64 3]) (by simp [results, Try.results60, go_sem]) rfl (retPl_bad 3 HB.out)
theorem rot1_next (t : Rn.T) (A : Option Addr) (c : Nat) (key n : ByteArray) (p1 p2 : Nat) (w : World) (h1 : w.cell? ⟨p1, 0, none⟩ = some (.string key)) (h2 : w.cell? ⟨p2, 0, none⟩ = some (.string n)) (l1 : p1 < w.heap.size) (l2 : p2 < w.heap.size) (hk : (key.size : Int) = 32) (h8 : ¬ (t.keys.length : Int) = 8) (hx : t.next = 1099511627776) :
    Calls Try.prog 60 (#[.agg #[.string (t).name, .int .i64 (t).epoch, .int .i64 (t).next, .slice (A) (t).keys.length (c)]] ++ #[.pointer (some ⟨p1, 0, none⟩), .pointer (some ⟨p2, 0, none⟩)]) w (RetPl [] 3 w) := by
  have HB := hid_mk (show Below w.heap.size w (w.alloc (.cells #[.string (t).name, .int .i64 (t).epoch, .int .i64 (t).next, .slice (A) (t).keys.length (c)] 38)) from (Below.refl _ _).alloc (Nat.le_refl _) _)
  rw [hx] at HB
  go_enter Try.func60, Try.ntmps60
  go_wp2
  exact bodyPost_ret (v := .tuple #[.slice none 0 0, .int .i64 3]) (by simp [results, Try.results60, go_sem]) rfl (retPl_bad 3 HB.out)
theorem rot1_ok (t : Rn.T) (A : Option Addr) (c : Nat) (key n : ByteArray) (p1 p2 : Nat) (w : World) (h1 : w.cell? ⟨p1, 0, none⟩ = some (.string key)) (h2 : w.cell? ⟨p2, 0, none⟩ = some (.string n)) (l1 : p1 < w.heap.size) (l2 : p2 < w.heap.size) (hn : n.size ≤ maxLen) (hky : key.size ≤ maxLen) (hk : (key.size : Int) = 32) (h8 : ¬ (t.keys.length : Int) = 8) (hx : ¬ t.next = 1099511627776) (hx0 : 0 ≤ t.next) (hx1 : t.next ≤ 1099511627776) :
    Calls Try.prog 60 (#[.agg #[.string (t).name, .int .i64 (t).epoch, .int .i64 (t).next, .slice (A) (t).keys.length (c)]] ++ #[.pointer (some ⟨p1, 0, none⟩), .pointer (some ⟨p2, 0, none⟩)]) w (RetPl [Pl.evT n (t.next + 1) t.epoch, Pl.evK n t.next key] 0 w) := by
  have HB := hid_mk (show Below w.heap.size w (w.alloc (.cells #[.string (t).name, .int .i64 (t).epoch, .int .i64 (t).next, .slice (A) (t).keys.length (c)] 38)) from (Below.refl _ _).alloc (Nat.le_refl _) _)
  go_enter Try.func60, Try.ntmps60
  go_wp2
  exact bodyPost_ret (v := .tuple #[.slice (some ⟨w.heap.size + 1, 0, none⟩) 2 2, .int .i64 0]) (by simp [results, Try.results60, go_sem]) rfl ⟨some ⟨w.heap.size + 1, 0, none⟩, 2, rfl, ⟨Nat.le_refl _, fun e => by cases e⟩, HB.out.alloc (by simp) _, evs2 (e := Pl.evT n (t.next + 1) t.epoch) (f := Pl.evK n t.next key) (blk_new (by simp)) ⟨by omega, by simp⟩ hn (Nat.zero_le _) hn hky⟩
theorem rev1_full (t : Rn.T) (A : Option Addr) (c : Nat) (n : ByteArray) (p1 : Nat) (w : World) (h1 : w.cell? ⟨p1, 0, none⟩ = some (.string n)) (l1 : p1 < w.heap.size) (hx : t.epoch = 1099511627776) :
    Calls Try.prog 62 (#[.agg #[.string (t).name, .int .i64 (t).epoch, .int .i64 (t).next, .slice (A) (t).keys.length (c)]] ++ #[.pointer (some ⟨p1, 0, none⟩)]) w (RetPl [] 3 w) := by
  have HB := hid_mk (show Below w.heap.size w (w.alloc (.cells #[.string (t).name, .int .i64 (t).epoch, .int .i64 (t).next, .slice (A) (t).keys.length (c)] 38)) from (Below.refl _ _).alloc (Nat.le_refl _) _)
  rw [hx] at HB
  go_enter Try.func62, Try.ntmps62
  go_wp2
  exact bodyPost_ret (v := .tuple #[.slice none 0 0, .int .i64 3]) (by simp [results, Try.results62, go_sem]) rfl (retPl_bad 3 HB.out)
theorem rev1_ok (t : Rn.T) (A : Option Addr) (c : Nat) (n : ByteArray) (p1 : Nat) (w : World) (h1 : w.cell? ⟨p1, 0, none⟩ = some (.string n)) (l1 : p1 < w.heap.size) (hn : n.size ≤ maxLen) (hx : ¬ t.epoch = 1099511627776) (hx0 : 0 ≤ t.epoch) (hx1 : t.epoch ≤ 1099511627776) :
    Calls Try.prog 62 (#[.agg #[.string (t).name, .int .i64 (t).epoch, .int .i64 (t).next, .slice (A) (t).keys.length (c)]] ++ #[.pointer (some ⟨p1, 0, none⟩)]) w (RetPl [Pl.evT n t.next (t.epoch + 1)] 0 w) := by
  have HB := hid_mk (show Below w.heap.size w (w.alloc (.cells #[.string (t).name, .int .i64 (t).epoch, .int .i64 (t).next, .slice (A) (t).keys.length (c)] 38)) from (Below.refl _ _).alloc (Nat.le_refl _) _)
  go_enter Try.func62, Try.ntmps62
  go_wp2
  exact bodyPost_ret (v := .tuple #[.slice (some ⟨w.heap.size + 1, 0, none⟩) 1 1, .int .i64 0]) (by simp [results, Try.results62, go_sem]) rfl ⟨some ⟨w.heap.size + 1, 0, none⟩, 1, rfl, ⟨Nat.le_refl _, fun e => by cases e⟩, HB.out.alloc (by simp) _, evs1 (e := Pl.evT n t.next (t.epoch + 1)) (blk_new (by simp)) ⟨by omega, by simp⟩ hn (Nat.zero_le _)⟩
theorem mint1_none (t : Rn.T) (A : Option Addr) (c : Nat) (ser : Int) (p1 : Nat) (w : World) (h1 : w.cell? ⟨p1, 1, none⟩ = some (.int .i64 ser)) (l1 : p1 < w.heap.size) (hk : (t.keys.length : Int) = 0) :
    Calls Try.prog 59 (#[.agg #[.string (t).name, .int .i64 (t).epoch, .int .i64 (t).next, .slice (A) (t).keys.length (c)]] ++ #[.pointer (some ⟨p1, 0, none⟩)]) w (RetPl [] 6 w) := by
  have HB := hid_mk (show Below w.heap.size w (w.alloc (.cells #[.string (t).name, .int .i64 (t).epoch, .int .i64 (t).next, .slice (A) (t).keys.length (c)] 38)) from (Below.refl _ _).alloc (Nat.le_refl _) _)
  go_enter Try.func59, Try.ntmps59
  go_wp2
  exact bodyPost_ret (v := .tuple #[.slice none 0 0, .int .i64 6]) (by simp [results, Try.results59, go_sem]) rfl (retPl_bad 6 HB.out)
theorem mint1_full (t : Rn.T) (A : Option Addr) (c : Nat) (ser : Int) (p1 : Nat) (w : World) (h1 : w.cell? ⟨p1, 1, none⟩ = some (.int .i64 ser)) (l1 : p1 < w.heap.size) (hk : ¬ (t.keys.length : Int) = 0) (hx : ser = 1099511627776) :
    Calls Try.prog 59 (#[.agg #[.string (t).name, .int .i64 (t).epoch, .int .i64 (t).next, .slice (A) (t).keys.length (c)]] ++ #[.pointer (some ⟨p1, 0, none⟩)]) w (RetPl [] 3 w) := by
  have HB := hid_mk (show Below w.heap.size w (w.alloc (.cells #[.string (t).name, .int .i64 (t).epoch, .int .i64 (t).next, .slice (A) (t).keys.length (c)] 38)) from (Below.refl _ _).alloc (Nat.le_refl _) _)
  go_enter Try.func59, Try.ntmps59
  go_wp2
  exact bodyPost_ret (v := .tuple #[.slice none 0 0, .int .i64 3]) (by simp [results, Try.results59, go_sem]) rfl (retPl_bad 3 HB.out)
theorem mint1_ok (t : Rn.T) (A : Option Addr) (c : Nat) (ser : Int) (p1 : Nat) (w : World) (h1 : w.cell? ⟨p1, 1, none⟩ = some (.int .i64 ser)) (l1 : p1 < w.heap.size) (hk : ¬ (t.keys.length : Int) = 0) (hx : ¬ ser = 1099511627776) (hx0 : 0 ≤ ser) (hx1 : ser ≤ 1099511627776) :
    Calls Try.prog 59 (#[.agg #[.string (t).name, .int .i64 (t).epoch, .int .i64 (t).next, .slice (A) (t).keys.length (c)]] ++ #[.pointer (some ⟨p1, 0, none⟩)]) w (RetPl [Pl.evS (ser + 1)] 0 w) := by
  have HB := hid_mk (show Below w.heap.size w (w.alloc (.cells #[.string (t).name, .int .i64 (t).epoch, .int .i64 (t).next, .slice (A) (t).keys.length (c)] 38)) from (Below.refl _ _).alloc (Nat.le_refl _) _)
  go_enter Try.func59, Try.ntmps59
  go_wp2
  exact bodyPost_ret (v := .tuple #[.slice (some ⟨w.heap.size + 1, 0, none⟩) 1 1, .int .i64 0]) (by simp [results, Try.results59, go_sem]) rfl ⟨some ⟨w.heap.size + 1, 0, none⟩, 1, rfl, ⟨Nat.le_refl _, fun e => by cases e⟩, HB.out.alloc (by simp) _, evs1 (e := Pl.evS (ser + 1)) (blk_new (by simp)) ⟨by omega, by simp⟩ (Nat.zero_le _) (Nat.zero_le _)⟩
end Go.Proofs.Ytgcgilcalmefgaa
namespace Go.Proofs.Ytgcgilcalmefgaa
open Go Go.RowKit Go.Sort
set_option maxRecDepth 100000
set_option linter.unusedSimpArgs false
set_option linter.unusedVariables false
set_option maxHeartbeats 4000000
theorem ptn_bad (s : Rn.S) (A : Option Addr) (c : Nat) (n key : ByteArray) (G : Nat → Prop) (w : World) (hG : ∀ b, G b → b < w.heap.size) (hl : s.tens.length ≤ maxLen) (hT : TensAt G w A s.tens) (hn : n.size ≤ maxLen) (hky : key.size ≤ maxLen) (hr : Rn.right s = false) :
    Calls Try.prog 47 #[.agg #[.slice (A) (s).tens.length (c), .int .i64 (s).serial], .string n, .string key] w (RetPl [] 7 w) := by
  have hb0 : Below w.heap.size w (w.alloc (.cells #[.slice (A) (s).tens.length (c), .int .i64 (s).serial] 24)) := (Below.refl _ _).alloc (Nat.le_refl _) _
  have HC := hide (pright_any s A c G _ (fun b h => Nat.lt_of_lt_of_le (hG b h) hb0.size) hl (tensAt_keep hT (fun b h => h) (kept_below hb0 hG)))
  rw [hr] at HC
  have HCF := hide (fun (V : World) (hb : Below w.heap.size w V) => pfind_any s A c n G V (fun b h => Nat.lt_of_lt_of_le (hG b h) hb.size) hl (tensAt_keep hT (fun b h => h) (kept_below hb hG)))
  have HCW := hide (fun (V : World) => Nm.word_any n V hn)
  have HB0 := hid_mk hb0
  have H0 := hid_mk (Blk.new w #[.slice (A) (s).tens.length (c), .int .i64 (s).serial] 24)
  clear hb0 hG hT
  go_enter Try.func47, Try.ntmps47
  go_wp2_with fail
  refine (unhide HC).mono ?_
  rintro e w1 ⟨rfl, hb1⟩
  have HB1 := hid_mk (HB0.out.trans (hb1.mono HB0.out.size))
  have hx1 := H0.out.call hb1
  have HX1 := hid_mk hx1
  (have y0 : w1.cell? ⟨w.heap.size, 0, none⟩ = some (.slice (A) (s).tens.length (c)) := hx1.cell 0; have y1 : w1.cell? ⟨w.heap.size, 1, none⟩ = some (.int .i64 (s).serial) := hx1.cell 1; have yf : ∀ i, w1.frozen? ⟨w.heap.size, i, none⟩ = false := hx1.frozen)
  clear hb1 HC H0 HB0 hx1
  clear HCF
  go_wp2
  exact bodyPost_ret (v := .tuple #[.slice none 0 0, .int .i64 7]) (by simp [results, Try.results47, go_sem]) rfl (retPl_bad 7 HB1.out)
theorem ptn_word (s : Rn.S) (A : Option Addr) (c : Nat) (n key : ByteArray) (G : Nat → Prop) (w : World) (hG : ∀ b, G b → b < w.heap.size) (hl : s.tens.length ≤ maxLen) (hT : TensAt G w A s.tens) (hn : n.size ≤ maxLen) (hky : key.size ≤ maxLen) (hr : Rn.right s = true) (hw : Nm.wordB n.data.toList = false) :
    Calls Try.prog 47 #[.agg #[.slice (A) (s).tens.length (c), .int .i64 (s).serial], .string n, .string key] w (RetPl [] 4 w) := by
  have hb0 : Below w.heap.size w (w.alloc (.cells #[.slice (A) (s).tens.length (c), .int .i64 (s).serial] 24)) := (Below.refl _ _).alloc (Nat.le_refl _) _
  have HC := hide (pright_any s A c G _ (fun b h => Nat.lt_of_lt_of_le (hG b h) hb0.size) hl (tensAt_keep hT (fun b h => h) (kept_below hb0 hG)))
  rw [hr] at HC
  have HCF := hide (fun (V : World) (hb : Below w.heap.size w V) => pfind_any s A c n G V (fun b h => Nat.lt_of_lt_of_le (hG b h) hb.size) hl (tensAt_keep hT (fun b h => h) (kept_below hb hG)))
  have HCW := hide (fun (V : World) => Nm.word_any n V hn)
  have HB0 := hid_mk hb0
  have H0 := hid_mk (Blk.new w #[.slice (A) (s).tens.length (c), .int .i64 (s).serial] 24)
  clear hb0 hG hT
  go_enter Try.func47, Try.ntmps47
  go_wp2_with fail
  refine (unhide HC).mono ?_
  rintro e w1 ⟨rfl, hb1⟩
  have HB1 := hid_mk (HB0.out.trans (hb1.mono HB0.out.size))
  have hx1 := H0.out.call hb1
  have HX1 := hid_mk hx1
  (have y0 : w1.cell? ⟨w.heap.size, 0, none⟩ = some (.slice (A) (s).tens.length (c)) := hx1.cell 0; have y1 : w1.cell? ⟨w.heap.size, 1, none⟩ = some (.int .i64 (s).serial) := hx1.cell 1; have yf : ∀ i, w1.frozen? ⟨w.heap.size, i, none⟩ = false := hx1.frozen)
  clear hb1 HC H0 HB0 hx1
  go_wp2_with fail
  refine (unhide HCW w1).mono ?_
  rintro e w2 ⟨rfl, hb2⟩
  rw [hw]
  have HB2 := hid_mk (HB1.out.trans (hb2.mono HB1.out.size))
  have hx2 := HX1.out.call hb2
  have HX2 := hid_mk hx2
  clear y0 y1 yf
  (have y0 : w2.cell? ⟨w.heap.size, 0, none⟩ = some (.slice (A) (s).tens.length (c)) := hx2.cell 0; have y1 : w2.cell? ⟨w.heap.size, 1, none⟩ = some (.int .i64 (s).serial) := hx2.cell 1; have yf : ∀ i, w2.frozen? ⟨w.heap.size, i, none⟩ = false := hx2.frozen)
  clear hb2 HB1 HX1 hx2
  clear HCF
  go_wp2
  exact bodyPost_ret (v := .tuple #[.slice none 0 0, .int .i64 4]) (by simp [results, Try.results47, go_sem]) rfl (retPl_bad 4 HB2.out)
theorem ptn_len (s : Rn.S) (A : Option Addr) (c : Nat) (n key : ByteArray) (G : Nat → Prop) (w : World) (hG : ∀ b, G b → b < w.heap.size) (hl : s.tens.length ≤ maxLen) (hT : TensAt G w A s.tens) (hn : n.size ≤ maxLen) (hky : key.size ≤ maxLen) (hr : Rn.right s = true) (hw : Nm.wordB n.data.toList = true) (hk : ¬ (key.size : Int) = 32) :
    Calls Try.prog 47 #[.agg #[.slice (A) (s).tens.length (c), .int .i64 (s).serial], .string n, .string key] w (RetPl [] 7 w) := by
  have hb0 : Below w.heap.size w (w.alloc (.cells #[.slice (A) (s).tens.length (c), .int .i64 (s).serial] 24)) := (Below.refl _ _).alloc (Nat.le_refl _) _
  have HC := hide (pright_any s A c G _ (fun b h => Nat.lt_of_lt_of_le (hG b h) hb0.size) hl (tensAt_keep hT (fun b h => h) (kept_below hb0 hG)))
  rw [hr] at HC
  have HCF := hide (fun (V : World) (hb : Below w.heap.size w V) => pfind_any s A c n G V (fun b h => Nat.lt_of_lt_of_le (hG b h) hb.size) hl (tensAt_keep hT (fun b h => h) (kept_below hb hG)))
  have HCW := hide (fun (V : World) => Nm.word_any n V hn)
  have HB0 := hid_mk hb0
  have H0 := hid_mk (Blk.new w #[.slice (A) (s).tens.length (c), .int .i64 (s).serial] 24)
  clear hb0 hG hT
  go_enter Try.func47, Try.ntmps47
  go_wp2_with fail
  refine (unhide HC).mono ?_
  rintro e w1 ⟨rfl, hb1⟩
  have HB1 := hid_mk (HB0.out.trans (hb1.mono HB0.out.size))
  have hx1 := H0.out.call hb1
  have HX1 := hid_mk hx1
  (have y0 : w1.cell? ⟨w.heap.size, 0, none⟩ = some (.slice (A) (s).tens.length (c)) := hx1.cell 0; have y1 : w1.cell? ⟨w.heap.size, 1, none⟩ = some (.int .i64 (s).serial) := hx1.cell 1; have yf : ∀ i, w1.frozen? ⟨w.heap.size, i, none⟩ = false := hx1.frozen)
  clear hb1 HC H0 HB0 hx1
  go_wp2_with fail
  refine (unhide HCW w1).mono ?_
  rintro e w2 ⟨rfl, hb2⟩
  rw [hw]
  have HB2 := hid_mk (HB1.out.trans (hb2.mono HB1.out.size))
  have hx2 := HX1.out.call hb2
  have HX2 := hid_mk hx2
  clear y0 y1 yf
  (have y0 : w2.cell? ⟨w.heap.size, 0, none⟩ = some (.slice (A) (s).tens.length (c)) := hx2.cell 0; have y1 : w2.cell? ⟨w.heap.size, 1, none⟩ = some (.int .i64 (s).serial) := hx2.cell 1; have yf : ∀ i, w2.frozen? ⟨w.heap.size, i, none⟩ = false := hx2.frozen)
  clear hb2 HB1 HX1 hx2
  clear HCF
  go_wp2
  exact bodyPost_ret (v := .tuple #[.slice none 0 0, .int .i64 7]) (by simp [results, Try.results47, go_sem]) rfl (retPl_bad 7 HB2.out)
theorem ptn_twice (s : Rn.S) (A : Option Addr) (c : Nat) (n key : ByteArray) (G : Nat → Prop) (w : World) (hG : ∀ b, G b → b < w.heap.size) (hl : s.tens.length ≤ maxLen) (hT : TensAt G w A s.tens) (hn : n.size ≤ maxLen) (hky : key.size ≤ maxLen) (hr : Rn.right s = true) (hw : Nm.wordB n.data.toList = true) (hk : (key.size : Int) = 32) (hf : 0 ≤ findI s.tens n) :
    Calls Try.prog 47 #[.agg #[.slice (A) (s).tens.length (c), .int .i64 (s).serial], .string n, .string key] w (RetPl [] 5 w) := by
  have hb0 : Below w.heap.size w (w.alloc (.cells #[.slice (A) (s).tens.length (c), .int .i64 (s).serial] 24)) := (Below.refl _ _).alloc (Nat.le_refl _) _
  have HC := hide (pright_any s A c G _ (fun b h => Nat.lt_of_lt_of_le (hG b h) hb0.size) hl (tensAt_keep hT (fun b h => h) (kept_below hb0 hG)))
  rw [hr] at HC
  have HCF := hide (fun (V : World) (hb : Below w.heap.size w V) => pfind_any s A c n G V (fun b h => Nat.lt_of_lt_of_le (hG b h) hb.size) hl (tensAt_keep hT (fun b h => h) (kept_below hb hG)))
  have HCW := hide (fun (V : World) => Nm.word_any n V hn)
  have HB0 := hid_mk hb0
  have H0 := hid_mk (Blk.new w #[.slice (A) (s).tens.length (c), .int .i64 (s).serial] 24)
  clear hb0 hG hT
  go_enter Try.func47, Try.ntmps47
  go_wp2_with fail
  refine (unhide HC).mono ?_
  rintro e w1 ⟨rfl, hb1⟩
  have HB1 := hid_mk (HB0.out.trans (hb1.mono HB0.out.size))
  have hx1 := H0.out.call hb1
  have HX1 := hid_mk hx1
  (have y0 : w1.cell? ⟨w.heap.size, 0, none⟩ = some (.slice (A) (s).tens.length (c)) := hx1.cell 0; have y1 : w1.cell? ⟨w.heap.size, 1, none⟩ = some (.int .i64 (s).serial) := hx1.cell 1; have yf : ∀ i, w1.frozen? ⟨w.heap.size, i, none⟩ = false := hx1.frozen)
  clear hb1 HC H0 HB0 hx1
  go_wp2_with fail
  refine (unhide HCW w1).mono ?_
  rintro e w2 ⟨rfl, hb2⟩
  rw [hw]
  have HB2 := hid_mk (HB1.out.trans (hb2.mono HB1.out.size))
  have hx2 := HX1.out.call hb2
  have HX2 := hid_mk hx2
  clear y0 y1 yf
  (have y0 : w2.cell? ⟨w.heap.size, 0, none⟩ = some (.slice (A) (s).tens.length (c)) := hx2.cell 0; have y1 : w2.cell? ⟨w.heap.size, 1, none⟩ = some (.int .i64 (s).serial) := hx2.cell 1; have yf : ∀ i, w2.frozen? ⟨w.heap.size, i, none⟩ = false := hx2.frozen)
  clear hb2 HB1 HX1 hx2
  go_wp2_with fail
  refine (unhide HCF w2 HB2.out).mono ?_
  rintro e w3 ⟨rfl, hb3⟩
  have HB3 := hid_mk (HB2.out.trans (hb3.mono HB2.out.size))
  have hx3 := HX2.out.call hb3
  generalize findI s.tens n = fi at *
  clear y0 y1 yf
  (have y0 : w3.cell? ⟨w.heap.size, 0, none⟩ = some (.slice (A) (s).tens.length (c)) := hx3.cell 0; have y1 : w3.cell? ⟨w.heap.size, 1, none⟩ = some (.int .i64 (s).serial) := hx3.cell 1; have yf : ∀ i, w3.frozen? ⟨w.heap.size, i, none⟩ = false := hx3.frozen)
  clear hb3 HB2 HX2 hx3
  go_wp2
  exact bodyPost_ret (v := .tuple #[.slice none 0 0, .int .i64 5]) (by simp [results, Try.results47, go_sem]) rfl (retPl_bad 5 HB3.out)
theorem ptn_full (s : Rn.S) (A : Option Addr) (c : Nat) (n key : ByteArray) (G : Nat → Prop) (w : World) (hG : ∀ b, G b → b < w.heap.size) (hl : s.tens.length ≤ maxLen) (hT : TensAt G w A s.tens) (hn : n.size ≤ maxLen) (hky : key.size ≤ maxLen) (hr : Rn.right s = true) (hw : Nm.wordB n.data.toList = true) (hk : (key.size : Int) = 32) (hf : ¬ 0 ≤ findI s.tens n) (h16 : (s.tens.length : Int) = 16) :
    Calls Try.prog 47 #[.agg #[.slice (A) (s).tens.length (c), .int .i64 (s).serial], .string n, .string key] w (RetPl [] 3 w) := by
  have hb0 : Below w.heap.size w (w.alloc (.cells #[.slice (A) (s).tens.length (c), .int .i64 (s).serial] 24)) := (Below.refl _ _).alloc (Nat.le_refl _) _
  have HC := hide (pright_any s A c G _ (fun b h => Nat.lt_of_lt_of_le (hG b h) hb0.size) hl (tensAt_keep hT (fun b h => h) (kept_below hb0 hG)))
  rw [hr] at HC
  have HCF := hide (fun (V : World) (hb : Below w.heap.size w V) => pfind_any s A c n G V (fun b h => Nat.lt_of_lt_of_le (hG b h) hb.size) hl (tensAt_keep hT (fun b h => h) (kept_below hb hG)))
  have HCW := hide (fun (V : World) => Nm.word_any n V hn)
  have HB0 := hid_mk hb0
  have H0 := hid_mk (Blk.new w #[.slice (A) (s).tens.length (c), .int .i64 (s).serial] 24)
  clear hb0 hG hT
  go_enter Try.func47, Try.ntmps47
  go_wp2_with fail
  refine (unhide HC).mono ?_
  rintro e w1 ⟨rfl, hb1⟩
  have HB1 := hid_mk (HB0.out.trans (hb1.mono HB0.out.size))
  have hx1 := H0.out.call hb1
  have HX1 := hid_mk hx1
  (have y0 : w1.cell? ⟨w.heap.size, 0, none⟩ = some (.slice (A) (s).tens.length (c)) := hx1.cell 0; have y1 : w1.cell? ⟨w.heap.size, 1, none⟩ = some (.int .i64 (s).serial) := hx1.cell 1; have yf : ∀ i, w1.frozen? ⟨w.heap.size, i, none⟩ = false := hx1.frozen)
  clear hb1 HC H0 HB0 hx1
  go_wp2_with fail
  refine (unhide HCW w1).mono ?_
  rintro e w2 ⟨rfl, hb2⟩
  rw [hw]
  have HB2 := hid_mk (HB1.out.trans (hb2.mono HB1.out.size))
  have hx2 := HX1.out.call hb2
  have HX2 := hid_mk hx2
  clear y0 y1 yf
  (have y0 : w2.cell? ⟨w.heap.size, 0, none⟩ = some (.slice (A) (s).tens.length (c)) := hx2.cell 0; have y1 : w2.cell? ⟨w.heap.size, 1, none⟩ = some (.int .i64 (s).serial) := hx2.cell 1; have yf : ∀ i, w2.frozen? ⟨w.heap.size, i, none⟩ = false := hx2.frozen)
  clear hb2 HB1 HX1 hx2
  go_wp2_with fail
  refine (unhide HCF w2 HB2.out).mono ?_
  rintro e w3 ⟨rfl, hb3⟩
  have HB3 := hid_mk (HB2.out.trans (hb3.mono HB2.out.size))
  have hx3 := HX2.out.call hb3
  generalize findI s.tens n = fi at *
  clear y0 y1 yf
  (have y0 : w3.cell? ⟨w.heap.size, 0, none⟩ = some (.slice (A) (s).tens.length (c)) := hx3.cell 0; have y1 : w3.cell? ⟨w.heap.size, 1, none⟩ = some (.int .i64 (s).serial) := hx3.cell 1; have yf : ∀ i, w3.frozen? ⟨w.heap.size, i, none⟩ = false := hx3.frozen)
  clear hb3 HB2 HX2 hx3
  have HSL := hid_mk h16
  go_wp2
  exact bodyPost_ret (v := .tuple #[.slice none 0 0, .int .i64 3]) (by simp [results, Try.results47, go_sem]) rfl (retPl_bad 3 HB3.out)
theorem ptn_ok (s : Rn.S) (A : Option Addr) (c : Nat) (n key : ByteArray) (G : Nat → Prop) (w : World) (hG : ∀ b, G b → b < w.heap.size) (hl : s.tens.length ≤ maxLen) (hT : TensAt G w A s.tens) (hn : n.size ≤ maxLen) (hky : key.size ≤ maxLen) (hr : Rn.right s = true) (hw : Nm.wordB n.data.toList = true) (hk : (key.size : Int) = 32) (hf : ¬ 0 ≤ findI s.tens n) (h16 : ¬ (s.tens.length : Int) = 16) :
    Calls Try.prog 47 #[.agg #[.slice (A) (s).tens.length (c), .int .i64 (s).serial], .string n, .string key] w (RetPl [Pl.evT n 2 0, Pl.evK n 1 key] 0 w) := by
  have hb0 : Below w.heap.size w (w.alloc (.cells #[.slice (A) (s).tens.length (c), .int .i64 (s).serial] 24)) := (Below.refl _ _).alloc (Nat.le_refl _) _
  have HC := hide (pright_any s A c G _ (fun b h => Nat.lt_of_lt_of_le (hG b h) hb0.size) hl (tensAt_keep hT (fun b h => h) (kept_below hb0 hG)))
  rw [hr] at HC
  have HCF := hide (fun (V : World) (hb : Below w.heap.size w V) => pfind_any s A c n G V (fun b h => Nat.lt_of_lt_of_le (hG b h) hb.size) hl (tensAt_keep hT (fun b h => h) (kept_below hb hG)))
  have HCW := hide (fun (V : World) => Nm.word_any n V hn)
  have HB0 := hid_mk hb0
  have H0 := hid_mk (Blk.new w #[.slice (A) (s).tens.length (c), .int .i64 (s).serial] 24)
  clear hb0 hG hT
  go_enter Try.func47, Try.ntmps47
  go_wp2_with fail
  refine (unhide HC).mono ?_
  rintro e w1 ⟨rfl, hb1⟩
  have HB1 := hid_mk (HB0.out.trans (hb1.mono HB0.out.size))
  have hx1 := H0.out.call hb1
  have HX1 := hid_mk hx1
  (have y0 : w1.cell? ⟨w.heap.size, 0, none⟩ = some (.slice (A) (s).tens.length (c)) := hx1.cell 0; have y1 : w1.cell? ⟨w.heap.size, 1, none⟩ = some (.int .i64 (s).serial) := hx1.cell 1; have yf : ∀ i, w1.frozen? ⟨w.heap.size, i, none⟩ = false := hx1.frozen)
  clear hb1 HC H0 HB0 hx1
  go_wp2_with fail
  refine (unhide HCW w1).mono ?_
  rintro e w2 ⟨rfl, hb2⟩
  rw [hw]
  have HB2 := hid_mk (HB1.out.trans (hb2.mono HB1.out.size))
  have hx2 := HX1.out.call hb2
  have HX2 := hid_mk hx2
  clear y0 y1 yf
  (have y0 : w2.cell? ⟨w.heap.size, 0, none⟩ = some (.slice (A) (s).tens.length (c)) := hx2.cell 0; have y1 : w2.cell? ⟨w.heap.size, 1, none⟩ = some (.int .i64 (s).serial) := hx2.cell 1; have yf : ∀ i, w2.frozen? ⟨w.heap.size, i, none⟩ = false := hx2.frozen)
  clear hb2 HB1 HX1 hx2
  go_wp2_with fail
  refine (unhide HCF w2 HB2.out).mono ?_
  rintro e w3 ⟨rfl, hb3⟩
  have HB3 := hid_mk (HB2.out.trans (hb3.mono HB2.out.size))
  have hx3 := HX2.out.call hb3
  generalize findI s.tens n = fi at *
  clear y0 y1 yf
  (have y0 : w3.cell? ⟨w.heap.size, 0, none⟩ = some (.slice (A) (s).tens.length (c)) := hx3.cell 0; have y1 : w3.cell? ⟨w.heap.size, 1, none⟩ = some (.int .i64 (s).serial) := hx3.cell 1; have yf : ∀ i, w3.frozen? ⟨w.heap.size, i, none⟩ = false := hx3.frozen)
  clear hb3 HB2 HX2 hx3
  go_wp2
  exact bodyPost_ret (v := .tuple #[.slice (some ⟨w3.heap.size, 0, none⟩) 2 2, .int .i64 0]) (by simp [results, Try.results47, go_sem]) rfl ⟨some ⟨w3.heap.size, 0, none⟩, 2, rfl, ⟨Nat.le_refl _, fun e => by cases e⟩, HB3.out.alloc HB3.out.size _, evs2 (e := Pl.evT n 2 0) (f := Pl.evK n 1 key) (Blk.new w3 _ _) ⟨HB3.out.size, by simp⟩ hn (Nat.zero_le _) hn hky⟩
theorem ptn_any (s : Rn.S) (A : Option Addr) (c : Nat) (n key : ByteArray) (num : Int) (G : Nat → Prop) (w : World) (hG : ∀ b, G b → b < w.heap.size) (hl : s.tens.length ≤ maxLen) (hT : TensAt G w A s.tens) (hn : n.size ≤ maxLen) (hky : key.size ≤ maxLen) :
    Calls Try.prog 47 #[.agg #[.slice (A) (s).tens.length (c), .int .i64 (s).serial], .string n, .string key] w (RetPl (Pl.planR 1 s n key num).1 (Pl.planR 1 s n key num).2 w) := by
  unfold Pl.planR
  cases hr : Rn.right s with
  | false => rw [if_pos rfl]; exact ptn_bad s A c n key G w hG hl hT hn hky hr
  | true =>
    rw [if_neg (by decide), if_pos rfl]
    cases hw : Nm.wordB n.data.toList with
    | false => rw [if_pos rfl]; exact ptn_word s A c n key G w hG hl hT hn hky hr hw
    | true =>
      rw [if_neg (by decide)]
      by_cases hk : key.size = 32
      · rw [if_neg (fun h => h hk)]
        by_cases hf : 0 ≤ findI s.tens n
        · rw [if_pos hf]; exact ptn_twice s A c n key G w hG hl hT hn hky hr hw (by omega) hf
        · rw [if_neg hf]
          by_cases h16 : s.tens.length = 16
          · rw [if_pos h16]; exact ptn_full s A c n key G w hG hl hT hn hky hr hw (by omega) hf (by omega)
          · rw [if_neg h16]; exact ptn_ok s A c n key G w hG hl hT hn hky hr hw (by omega) hf (by omega)
      · rw [if_pos hk]; exact ptn_len s A c n key G w hG hl hT hn hky hr hw (by omega)
end Go.Proofs.Ytgcgilcalmefgaa
namespace Go.Proofs.Ytgcgilcalmefgaa
open Go Go.RowKit Go.Sort
set_option maxRecDepth 100000
set_option linter.unusedSimpArgs false
set_option linter.unusedVariables false
set_option maxHeartbeats 4000000
theorem ret1_none (t : Rn.T) (At : Option Addr) (ct : Nat) (s : Rn.S) (A : Option Addr) (c : Nat) (n : ByteArray) (num : Int) (p1 p2 p3 : Nat) (G : Nat → Prop) (w : World) (hG : ∀ b, G b → b < w.heap.size) (hl : s.tens.length ≤ maxLen) (hT : TensAt G w A s.tens) (h1 : Blk w p1 #[.slice (A) (s).tens.length (c), .int .i64 (s).serial] 24) (h2 : Blk w p2 #[.string n] 9) (h3 : Blk w p3 #[.int .i64 num] 3) (hn : n.size ≤ maxLen) (hk : (keyRes s n num).2 = false) :
    Calls Try.prog 61 (#[.agg #[.string (t).name, .int .i64 (t).epoch, .int .i64 (t).next, .slice (At) (t).keys.length (ct)]] ++ #[.pointer (some ⟨p1, 0, none⟩), .pointer (some ⟨p2, 0, none⟩), .pointer (some ⟨p3, 0, none⟩)]) w (RetPl [] 6 w) := by
  obtain ⟨W0, hW0⟩ : ∃ W0, W0 = w.alloc (.cells #[.string (t).name, .int .i64 (t).epoch, .int .i64 (t).next, .slice (At) (t).keys.length (ct)] 38) := ⟨_, rfl⟩
  have hb0 : Below w.heap.size w W0 := by rw [hW0]; exact (Below.refl _ _).alloc (Nat.le_refl _) _
  have HCN := hide (pnew_any s A c n G W0 (fun b h => Nat.lt_of_lt_of_le (hG b h) hb0.size) hl (tensAt_keep hT (fun b h => h) (kept_below hb0 hG)))
  have HCK := hide (fun (V : World) (hb : Below w.heap.size w V) => pkey_any s A c n num G V (fun b h => Nat.lt_of_lt_of_le (hG b h) hb.size) hl (tensAt_keep hT (fun b h => h) (kept_below hb hG)))
  have HB0 := hid_mk hb0
  have H1 := hid_mk (h1.call hb0)
  have H2 := hid_mk (h2.call hb0)
  have H3 := hid_mk (h3.call hb0)
  have hx2 : w.cell? ⟨p2, 0, none⟩ = some (.string n) := h2.cell 0
  have l1 := h1.lt
  have l2 := h2.lt
  (have y0 : w.cell? ⟨p1, 0, none⟩ = some (.slice (A) (s).tens.length (c)) := h1.cell 0; have y1 : w.cell? ⟨p1, 1, none⟩ = some (.int .i64 (s).serial) := h1.cell 1; have yf : ∀ i, w.frozen? ⟨p1, i, none⟩ = false := h1.frozen)
  have HW0 := hid_mk hW0
  clear hb0 hW0 hG hT h1 h2 h3
  go_enter Try.func61, Try.ntmps61
  go_wp2_with fail
  rw [← HW0.out]
  refine (unhide HCN).mono ?_
  rintro e w1 ⟨rfl, hb1⟩
  generalize (newRes s n).1 = k at *
  have HB1 := hid_mk (HB0.out.trans (hb1.mono HB0.out.size))
  have HP1 := hid_mk (H1.out.call hb1)
  have HP2 := hid_mk (H2.out.call hb1)
  have HP3 := hid_mk (H3.out.call hb1)
  have HSZ := hid_mk (show w.heap.size ≤ w1.heap.size from HB1.out.size)
  clear hb1 HCN H1 H2 H3 HB0 HW0 hx2 l1 l2 y0 y1 yf
  obtain ⟨W2, hW2⟩ : ∃ W2, W2 = (w1.alloc (.cells #[.int .i64 0, .string ⟨#[]⟩] 44)).setRow w1.heap.size #[.int .i64 (k).num, .string (k).txt] := ⟨_, rfl⟩
  have hb2 : Below w1.heap.size w1 W2 := by rw [hW2]; exact below_row ((Below.refl _ _).alloc (Nat.le_refl _) _) (Nat.le_refl _) _
  have HB2 := hid_mk (HB1.out.trans (hb2.mono HB1.out.size))
  have hx1 := HP1.out.call hb2
  have hx2 : W2.cell? ⟨p2, 0, none⟩ = some (.string n) := (HP2.out.call hb2).cell 0
  have hx3 : W2.cell? ⟨p3, 0, none⟩ = some (.int .i64 num) := (HP3.out.call hb2).cell 0
  have HK := hid_mk (show Blk W2 w1.heap.size #[.int .i64 (k).num, .string (k).txt] 44 by rw [hW2]; exact (Blk.new w1 _ _).row)
  have HR2 := hid_mk (HP2.out.call hb2)
  have HR3 := hid_mk (HP3.out.call hb2)
  have HW2 := hid_mk hW2
  (have y0 : W2.cell? ⟨p1, 0, none⟩ = some (.slice (A) (s).tens.length (c)) := hx1.cell 0; have y1 : W2.cell? ⟨p1, 1, none⟩ = some (.int .i64 (s).serial) := hx1.cell 1; have yf : ∀ i, W2.frozen? ⟨p1, i, none⟩ = false := hx1.frozen)
  clear hx1 hb2 hW2
  go_wp2_with (first | (refine store_row 44 rfl _ _ rfl w1.heap.size _ _ 44 (Blk.new w1 _ _) rfl rfl (by kernel_rfl) rfl rfl ?_; rw [← HW2.out]))
  refine (unhide HCK W2 HB2.out).mono ?_
  rintro e w3 ⟨rfl, hb3⟩
  have HB3 := hid_mk (HB2.out.trans (hb3.mono HB2.out.size))
  have hk7 : w3.cell? ⟨w1.heap.size, 0, none⟩ = some (.int .i64 k.num) := (HK.out.call hb3).cell 0
  clear hx2 hx3
  have hx2 : w3.cell? ⟨p2, 0, none⟩ = some (.string n) := (HR2.out.call hb3).cell 0
  have hx3 : w3.cell? ⟨p3, 0, none⟩ = some (.int .i64 num) := (HR3.out.call hb3).cell 0
  clear hb3 HCK HK HR2 HR3 HW2 HP1 HP2 HP3 y0 y1 yf
  generalize keyRes s n num = r at *
  obtain ⟨r1, r2⟩ := r
  have hk : r2 = _ := hk
  subst hk
  go_wp2
  exact bodyPost_ret (v := .tuple #[.slice none 0 0, .int .i64 6]) (by simp [results, Try.results61, go_sem]) rfl (retPl_bad 6 HB3.out)
theorem ret1_last (t : Rn.T) (At : Option Addr) (ct : Nat) (s : Rn.S) (A : Option Addr) (c : Nat) (n : ByteArray) (num : Int) (p1 p2 p3 : Nat) (G : Nat → Prop) (w : World) (hG : ∀ b, G b → b < w.heap.size) (hl : s.tens.length ≤ maxLen) (hT : TensAt G w A s.tens) (h1 : Blk w p1 #[.slice (A) (s).tens.length (c), .int .i64 (s).serial] 24) (h2 : Blk w p2 #[.string n] 9) (h3 : Blk w p3 #[.int .i64 num] 3) (hn : n.size ≤ maxLen) (hk : (keyRes s n num).2 = true) (hx : (newRes s n).1.num = num) :
    Calls Try.prog 61 (#[.agg #[.string (t).name, .int .i64 (t).epoch, .int .i64 (t).next, .slice (At) (t).keys.length (ct)]] ++ #[.pointer (some ⟨p1, 0, none⟩), .pointer (some ⟨p2, 0, none⟩), .pointer (some ⟨p3, 0, none⟩)]) w (RetPl [] 7 w) := by
  obtain ⟨W0, hW0⟩ : ∃ W0, W0 = w.alloc (.cells #[.string (t).name, .int .i64 (t).epoch, .int .i64 (t).next, .slice (At) (t).keys.length (ct)] 38) := ⟨_, rfl⟩
  have hb0 : Below w.heap.size w W0 := by rw [hW0]; exact (Below.refl _ _).alloc (Nat.le_refl _) _
  have HCN := hide (pnew_any s A c n G W0 (fun b h => Nat.lt_of_lt_of_le (hG b h) hb0.size) hl (tensAt_keep hT (fun b h => h) (kept_below hb0 hG)))
  have HCK := hide (fun (V : World) (hb : Below w.heap.size w V) => pkey_any s A c n num G V (fun b h => Nat.lt_of_lt_of_le (hG b h) hb.size) hl (tensAt_keep hT (fun b h => h) (kept_below hb hG)))
  have HB0 := hid_mk hb0
  have H1 := hid_mk (h1.call hb0)
  have H2 := hid_mk (h2.call hb0)
  have H3 := hid_mk (h3.call hb0)
  have hx2 : w.cell? ⟨p2, 0, none⟩ = some (.string n) := h2.cell 0
  have l1 := h1.lt
  have l2 := h2.lt
  (have y0 : w.cell? ⟨p1, 0, none⟩ = some (.slice (A) (s).tens.length (c)) := h1.cell 0; have y1 : w.cell? ⟨p1, 1, none⟩ = some (.int .i64 (s).serial) := h1.cell 1; have yf : ∀ i, w.frozen? ⟨p1, i, none⟩ = false := h1.frozen)
  have HW0 := hid_mk hW0
  clear hb0 hW0 hG hT h1 h2 h3
  have HX := hid_mk hx
  clear hx
  go_enter Try.func61, Try.ntmps61
  go_wp2_with fail
  rw [← HW0.out]
  refine (unhide HCN).mono ?_
  rintro e w1 ⟨rfl, hb1⟩
  generalize (newRes s n).1 = k at *
  have HB1 := hid_mk (HB0.out.trans (hb1.mono HB0.out.size))
  have HP1 := hid_mk (H1.out.call hb1)
  have HP2 := hid_mk (H2.out.call hb1)
  have HP3 := hid_mk (H3.out.call hb1)
  have HSZ := hid_mk (show w.heap.size ≤ w1.heap.size from HB1.out.size)
  clear hb1 HCN H1 H2 H3 HB0 HW0 hx2 l1 l2 y0 y1 yf
  obtain ⟨W2, hW2⟩ : ∃ W2, W2 = (w1.alloc (.cells #[.int .i64 0, .string ⟨#[]⟩] 44)).setRow w1.heap.size #[.int .i64 (k).num, .string (k).txt] := ⟨_, rfl⟩
  have hb2 : Below w1.heap.size w1 W2 := by rw [hW2]; exact below_row ((Below.refl _ _).alloc (Nat.le_refl _) _) (Nat.le_refl _) _
  have HB2 := hid_mk (HB1.out.trans (hb2.mono HB1.out.size))
  have hx1 := HP1.out.call hb2
  have hx2 : W2.cell? ⟨p2, 0, none⟩ = some (.string n) := (HP2.out.call hb2).cell 0
  have hx3 : W2.cell? ⟨p3, 0, none⟩ = some (.int .i64 num) := (HP3.out.call hb2).cell 0
  have HK := hid_mk (show Blk W2 w1.heap.size #[.int .i64 (k).num, .string (k).txt] 44 by rw [hW2]; exact (Blk.new w1 _ _).row)
  have HR2 := hid_mk (HP2.out.call hb2)
  have HR3 := hid_mk (HP3.out.call hb2)
  have HW2 := hid_mk hW2
  (have y0 : W2.cell? ⟨p1, 0, none⟩ = some (.slice (A) (s).tens.length (c)) := hx1.cell 0; have y1 : W2.cell? ⟨p1, 1, none⟩ = some (.int .i64 (s).serial) := hx1.cell 1; have yf : ∀ i, W2.frozen? ⟨p1, i, none⟩ = false := hx1.frozen)
  clear hx1 hb2 hW2
  go_wp2_with (first | (refine store_row 44 rfl _ _ rfl w1.heap.size _ _ 44 (Blk.new w1 _ _) rfl rfl (by kernel_rfl) rfl rfl ?_; rw [← HW2.out]))
  refine (unhide HCK W2 HB2.out).mono ?_
  rintro e w3 ⟨rfl, hb3⟩
  have HB3 := hid_mk (HB2.out.trans (hb3.mono HB2.out.size))
  have hk7 : w3.cell? ⟨w1.heap.size, 0, none⟩ = some (.int .i64 k.num) := (HK.out.call hb3).cell 0
  clear hx2 hx3
  have hx2 : w3.cell? ⟨p2, 0, none⟩ = some (.string n) := (HR2.out.call hb3).cell 0
  have hx3 : w3.cell? ⟨p3, 0, none⟩ = some (.int .i64 num) := (HR3.out.call hb3).cell 0
  clear hb3 HCK HK HR2 HR3 HW2 HP1 HP2 HP3 y0 y1 yf
  have hx := HX.out
  generalize keyRes s n num = r at *
  obtain ⟨r1, r2⟩ := r
  have hk : r2 = _ := hk
  subst hk
  go_wp2
  exact bodyPost_ret (v := .tuple #[.slice none 0 0, .int .i64 7]) (by simp [results, Try.results61, go_sem]) rfl (retPl_bad 7 HB3.out)
theorem ret1_ok (t : Rn.T) (At : Option Addr) (ct : Nat) (s : Rn.S) (A : Option Addr) (c : Nat) (n : ByteArray) (num : Int) (p1 p2 p3 : Nat) (G : Nat → Prop) (w : World) (hG : ∀ b, G b → b < w.heap.size) (hl : s.tens.length ≤ maxLen) (hT : TensAt G w A s.tens) (h1 : Blk w p1 #[.slice (A) (s).tens.length (c), .int .i64 (s).serial] 24) (h2 : Blk w p2 #[.string n] 9) (h3 : Blk w p3 #[.int .i64 num] 3) (hn : n.size ≤ maxLen) (hk : (keyRes s n num).2 = true) (hx : ¬ (newRes s n).1.num = num) :
    Calls Try.prog 61 (#[.agg #[.string (t).name, .int .i64 (t).epoch, .int .i64 (t).next, .slice (At) (t).keys.length (ct)]] ++ #[.pointer (some ⟨p1, 0, none⟩), .pointer (some ⟨p2, 0, none⟩), .pointer (some ⟨p3, 0, none⟩)]) w (RetPl [Pl.evD n num] 0 w) := by
  obtain ⟨W0, hW0⟩ : ∃ W0, W0 = w.alloc (.cells #[.string (t).name, .int .i64 (t).epoch, .int .i64 (t).next, .slice (At) (t).keys.length (ct)] 38) := ⟨_, rfl⟩
  have hb0 : Below w.heap.size w W0 := by rw [hW0]; exact (Below.refl _ _).alloc (Nat.le_refl _) _
  have HCN := hide (pnew_any s A c n G W0 (fun b h => Nat.lt_of_lt_of_le (hG b h) hb0.size) hl (tensAt_keep hT (fun b h => h) (kept_below hb0 hG)))
  have HCK := hide (fun (V : World) (hb : Below w.heap.size w V) => pkey_any s A c n num G V (fun b h => Nat.lt_of_lt_of_le (hG b h) hb.size) hl (tensAt_keep hT (fun b h => h) (kept_below hb hG)))
  have HB0 := hid_mk hb0
  have H1 := hid_mk (h1.call hb0)
  have H2 := hid_mk (h2.call hb0)
  have H3 := hid_mk (h3.call hb0)
  have hx2 : w.cell? ⟨p2, 0, none⟩ = some (.string n) := h2.cell 0
  have l1 := h1.lt
  have l2 := h2.lt
  (have y0 : w.cell? ⟨p1, 0, none⟩ = some (.slice (A) (s).tens.length (c)) := h1.cell 0; have y1 : w.cell? ⟨p1, 1, none⟩ = some (.int .i64 (s).serial) := h1.cell 1; have yf : ∀ i, w.frozen? ⟨p1, i, none⟩ = false := h1.frozen)
  have HW0 := hid_mk hW0
  clear hb0 hW0 hG hT h1 h2 h3
  have HX := hid_mk hx
  clear hx
  go_enter Try.func61, Try.ntmps61
  go_wp2_with fail
  rw [← HW0.out]
  refine (unhide HCN).mono ?_
  rintro e w1 ⟨rfl, hb1⟩
  generalize (newRes s n).1 = k at *
  have HB1 := hid_mk (HB0.out.trans (hb1.mono HB0.out.size))
  have HP1 := hid_mk (H1.out.call hb1)
  have HP2 := hid_mk (H2.out.call hb1)
  have HP3 := hid_mk (H3.out.call hb1)
  have HSZ := hid_mk (show w.heap.size ≤ w1.heap.size from HB1.out.size)
  clear hb1 HCN H1 H2 H3 HB0 HW0 hx2 l1 l2 y0 y1 yf
  obtain ⟨W2, hW2⟩ : ∃ W2, W2 = (w1.alloc (.cells #[.int .i64 0, .string ⟨#[]⟩] 44)).setRow w1.heap.size #[.int .i64 (k).num, .string (k).txt] := ⟨_, rfl⟩
  have hb2 : Below w1.heap.size w1 W2 := by rw [hW2]; exact below_row ((Below.refl _ _).alloc (Nat.le_refl _) _) (Nat.le_refl _) _
  have HB2 := hid_mk (HB1.out.trans (hb2.mono HB1.out.size))
  have hx1 := HP1.out.call hb2
  have hx2 : W2.cell? ⟨p2, 0, none⟩ = some (.string n) := (HP2.out.call hb2).cell 0
  have hx3 : W2.cell? ⟨p3, 0, none⟩ = some (.int .i64 num) := (HP3.out.call hb2).cell 0
  have HK := hid_mk (show Blk W2 w1.heap.size #[.int .i64 (k).num, .string (k).txt] 44 by rw [hW2]; exact (Blk.new w1 _ _).row)
  have HR2 := hid_mk (HP2.out.call hb2)
  have HR3 := hid_mk (HP3.out.call hb2)
  have HW2 := hid_mk hW2
  (have y0 : W2.cell? ⟨p1, 0, none⟩ = some (.slice (A) (s).tens.length (c)) := hx1.cell 0; have y1 : W2.cell? ⟨p1, 1, none⟩ = some (.int .i64 (s).serial) := hx1.cell 1; have yf : ∀ i, W2.frozen? ⟨p1, i, none⟩ = false := hx1.frozen)
  clear hx1 hb2 hW2
  go_wp2_with (first | (refine store_row 44 rfl _ _ rfl w1.heap.size _ _ 44 (Blk.new w1 _ _) rfl rfl (by kernel_rfl) rfl rfl ?_; rw [← HW2.out]))
  refine (unhide HCK W2 HB2.out).mono ?_
  rintro e w3 ⟨rfl, hb3⟩
  have HB3 := hid_mk (HB2.out.trans (hb3.mono HB2.out.size))
  have hk7 : w3.cell? ⟨w1.heap.size, 0, none⟩ = some (.int .i64 k.num) := (HK.out.call hb3).cell 0
  clear hx2 hx3
  have hx2 : w3.cell? ⟨p2, 0, none⟩ = some (.string n) := (HR2.out.call hb3).cell 0
  have hx3 : w3.cell? ⟨p3, 0, none⟩ = some (.int .i64 num) := (HR3.out.call hb3).cell 0
  clear hb3 HCK HK HR2 HR3 HW2 HP1 HP2 HP3 y0 y1 yf
  have hx := HX.out
  generalize keyRes s n num = r at *
  obtain ⟨r1, r2⟩ := r
  have hk : r2 = _ := hk
  subst hk
  go_wp2
  exact bodyPost_ret (v := .tuple #[.slice (some ⟨w3.heap.size, 0, none⟩) 1 1, .int .i64 0]) (by simp [results, Try.results61, go_sem]) rfl ⟨some ⟨w3.heap.size, 0, none⟩, 1, rfl, ⟨Nat.le_refl _, fun e => by cases e⟩, HB3.out.alloc HB3.out.size _, evs1 (e := Pl.evD n num) (Blk.new w3 _ _) ⟨HB3.out.size, by simp⟩ hn (Nat.zero_le _)⟩
end Go.Proofs.Ytgcgilcalmefgaa
namespace Go.Proofs.Ytgcgilcalmefgaa
open Go Go.RowKit Go.Sort
set_option maxRecDepth 100000
set_option linter.unusedSimpArgs false
set_option linter.unusedVariables false
set_option maxHeartbeats 4000000
/-- what is known of a tenant that is there -/
theorem ten_there {s : Rn.S} {n : ByteArray} (hr : Rn.right s = true) (h : ¬ findI s.tens n < 0) : ∃ (i : Nat) (hi : i < s.tens.length), findI s.tens n = (i : Int) ∧ Pl.tenAt s n = s.tens[i] ∧ s.tens[i].name = n ∧ 0 ≤ s.tens[i].epoch ∧ s.tens[i].epoch ≤ 1099511627776 ∧ 0 ≤ s.tens[i].next ∧ s.tens[i].next ≤ 1099511627776 := by
  obtain ⟨-, hi, h1, h2, h3⟩ := Pl.find_there hr h
  obtain ⟨-, h4, h5, -⟩ := Rn.ten_parts ((Rn.right_parts hr).2.2.1 _ (List.getElem_mem hi))
  have h4 := Rn.fromB_iff.1 h4
  have h5 := Rn.fromB_iff.1 h5
  exact ⟨_, hi, h1, h2, h3, by omega, by omega, by omega, by omega⟩
theorem prot_any (s : Rn.S) (A : Option Addr) (c : Nat) (n : ByteArray) (key : ByteArray) (num : Int) (G : Nat → Prop) (w : World) (hG : ∀ b, G b → b < w.heap.size) (hl : s.tens.length ≤ maxLen) (hT : TensAt G w A s.tens) (hn : n.size ≤ maxLen) (hky : key.size ≤ maxLen) :
    Calls Try.prog 49 #[.agg #[.slice (A) (s).tens.length (c), .int .i64 (s).serial], .string n, .string key] w (RetPl (Pl.planR 2 s n key num).1 (Pl.planR 2 s n key num).2 w) := by
  obtain ⟨W0, hW0⟩ : ∃ W0, W0 = (((w.alloc (.cells #[.slice (A) (s).tens.length (c), .int .i64 (s).serial] 24)).alloc (.cells #[.string n] 9)).alloc (.cells #[.string key] 9)) := ⟨_, rfl⟩
  have hb0 : Below w.heap.size w W0 := by rw [hW0]; exact ((((Below.refl _ _).alloc (Nat.le_refl _) _).alloc (by simp <;> omega) _).alloc (by simp <;> omega) _)
  have hx0 : Blk W0 (w.heap.size) #[.slice (A) (s).tens.length (c), .int .i64 (s).serial] 24 := by rw [hW0]; exact (((Blk.new w _ _).alloc _).alloc _)
  have hx1 : Blk W0 (w.heap.size + 1) #[.string n] 9 := by rw [hW0]; exact ((blk_new (by simp)).alloc _)
  have hx2 : Blk W0 (w.heap.size + 2) #[.string key] 9 := by rw [hW0]; exact (blk_new (by simp))
  have hGW : ∀ b, G b → b < W0.heap.size := fun b h => Nat.lt_of_lt_of_le (hG b h) hb0.size
  have hTW : TensAt G W0 A s.tens := tensAt_keep hT (fun b h => h) (kept_below hb0 hG)
  have HO : Calls Try.prog 58 #[.agg #[.slice (A) (s).tens.length (c), .int .i64 (s).serial], .string n, .func (.func 60) #[] #[.pointer (some ⟨w.heap.size + 2, 0, none⟩), .pointer (some ⟨w.heap.size + 1, 0, none⟩)]] W0 (RetPl (Pl.planR 2 s n key num).1 (Pl.planR 2 s n key num).2 W0) := by
    unfold Pl.planR
    cases hr : Rn.right s with
    | false => rw [if_pos rfl]; exact of_bad s A c n _ G W0 hGW hl hTW hr
    | true =>
      rw [if_neg (by decide), if_neg (by decide)]
      by_cases hf : findI s.tens n < 0
      · rw [if_pos hf]; exact of_none s A c n _ G W0 hGW hl hTW hr hf
      obtain ⟨i, hi, hat, hte, hnm, e1, e2, x1, x2⟩ := ten_there hr hf
      rw [if_neg hf, hte]
      rw [if_pos  rfl]
      have q1 : ∀ V : World, Below W0.heap.size W0 V → V.cell? ⟨w.heap.size + 2, 0, none⟩ = some (.string key) := fun V hb => (hx2.call hb).cell 0
      have q2 : ∀ V : World, Below W0.heap.size W0 V → V.cell? ⟨w.heap.size + 1, 0, none⟩ = some (.string n) := fun V hb => (hx1.call hb).cell 0
      have l1 : ∀ V : World, Below W0.heap.size W0 V → w.heap.size + 2 < V.heap.size := fun V hb => (hx2.call hb).lt
      have l2 : ∀ V : World, Below W0.heap.size W0 V → w.heap.size + 1 < V.heap.size := fun V hb => (hx1.call hb).lt
      by_cases hk : key.size = 32
      · rw [if_neg (fun h => h hk)]
        by_cases h8 : s.tens[i].keys.length = 8
        · rw [if_pos (Or.inl h8)]
          exact of_ok s A c n _ _ _ _ G W0 hGW hl hTW hr i hi hat (fun _ _ => rfl) (fun _ => rfl) (fun V A' c' hb _ _ _ => rot1_full s.tens[i] A' c' key n _ _ V (q1 V hb) (q2 V hb) (l1 V hb) (l2 V hb) (by omega) (by omega))
        by_cases hx : s.tens[i].next = 1099511627776
        · rw [if_pos (Or.inr hx)]
          exact of_ok s A c n _ _ _ _ G W0 hGW hl hTW hr i hi hat (fun _ _ => rfl) (fun _ => rfl) (fun V A' c' hb _ _ _ => rot1_next s.tens[i] A' c' key n _ _ V (q1 V hb) (q2 V hb) (l1 V hb) (l2 V hb) (by omega) (by omega) hx)
        rw [if_neg (fun h => h.elim h8 hx)]
        exact of_ok s A c n _ _ _ _ G W0 hGW hl hTW hr i hi hat (fun _ _ => rfl) (fun h => absurd rfl h) (fun V A' c' hb _ _ _ => rot1_ok s.tens[i] A' c' key n _ _ V (q1 V hb) (q2 V hb) (l1 V hb) (l2 V hb) hn hky (by omega) (by omega) hx x1 x2)
      · rw [if_pos hk]
        exact of_ok s A c n _ _ _ _ G W0 hGW hl hTW hr i hi hat (fun _ _ => rfl) (fun _ => rfl) (fun V A' c' hb _ _ _ => rot1_len s.tens[i] A' c' key n _ _ V (q1 V hb) (q2 V hb) (l1 V hb) (l2 V hb) (by omega))
  generalize Pl.planR 2 s n key num = r at *
  obtain ⟨es, err⟩ := r
  have HOH := hide HO
  have HB0 := hid_mk hb0
  have HW0 := hid_mk hW0
  clear HO hb0 hG hT hGW hTW hx0 hx1 hx2 hW0
  go_enter Try.func49, Try.ntmps49
  go_wp2_with fail
  rw [← HW0.out]
  refine (unhide HOH).mono ?_
  rintro e w1 ⟨Ar, cr, rfl, hf1, hb1, hE⟩
  have HR := hid_mk (show RetPl es err w (.returned (.tuple #[.slice Ar es.length cr, .int .i64 err])) w1 from ⟨Ar, cr, rfl, hf1, HB0.out.trans (hb1.mono HB0.out.size), rows_keep hE (fun _ _ _ h => h) (fun b h => ⟨Nat.le_trans HB0.out.size h.1, h.2⟩) (fun b _ => rfl)⟩)
  clear hb1 hE HOH HB0 HW0
  go_wp2
  exact bodyPost_ret (v := .tuple #[.slice Ar es.length cr, .int .i64 err]) (by simp [results, Try.results49, go_sem]) rfl HR.out
theorem pret_any (s : Rn.S) (A : Option Addr) (c : Nat) (n : ByteArray) (num : Int) (key : ByteArray) (G : Nat → Prop) (w : World) (hG : ∀ b, G b → b < w.heap.size) (hl : s.tens.length ≤ maxLen) (hT : TensAt G w A s.tens) (hn : n.size ≤ maxLen) :
    Calls Try.prog 50 #[.agg #[.slice (A) (s).tens.length (c), .int .i64 (s).serial], .string n, .int .i64 num] w (RetPl (Pl.planR 3 s n key num).1 (Pl.planR 3 s n key num).2 w) := by
  obtain ⟨W0, hW0⟩ : ∃ W0, W0 = (((w.alloc (.cells #[.slice (A) (s).tens.length (c), .int .i64 (s).serial] 24)).alloc (.cells #[.string n] 9)).alloc (.cells #[.int .i64 num] 3)) := ⟨_, rfl⟩
  have hb0 : Below w.heap.size w W0 := by rw [hW0]; exact ((((Below.refl _ _).alloc (Nat.le_refl _) _).alloc (by simp <;> omega) _).alloc (by simp <;> omega) _)
  have hx0 : Blk W0 (w.heap.size) #[.slice (A) (s).tens.length (c), .int .i64 (s).serial] 24 := by rw [hW0]; exact (((Blk.new w _ _).alloc _).alloc _)
  have hx1 : Blk W0 (w.heap.size + 1) #[.string n] 9 := by rw [hW0]; exact ((blk_new (by simp)).alloc _)
  have hx2 : Blk W0 (w.heap.size + 2) #[.int .i64 num] 3 := by rw [hW0]; exact (blk_new (by simp))
  have hGW : ∀ b, G b → b < W0.heap.size := fun b h => Nat.lt_of_lt_of_le (hG b h) hb0.size
  have hTW : TensAt G W0 A s.tens := tensAt_keep hT (fun b h => h) (kept_below hb0 hG)
  have HO : Calls Try.prog 58 #[.agg #[.slice (A) (s).tens.length (c), .int .i64 (s).serial], .string n, .func (.func 61) #[] #[.pointer (some ⟨w.heap.size, 0, none⟩), .pointer (some ⟨w.heap.size + 1, 0, none⟩), .pointer (some ⟨w.heap.size + 2, 0, none⟩)]] W0 (RetPl (Pl.planR 3 s n key num).1 (Pl.planR 3 s n key num).2 W0) := by
    unfold Pl.planR
    cases hr : Rn.right s with
    | false => rw [if_pos rfl]; exact of_bad s A c n _ G W0 hGW hl hTW hr
    | true =>
      rw [if_neg (by decide), if_neg (by decide)]
      by_cases hf : findI s.tens n < 0
      · rw [if_pos hf]; exact of_none s A c n _ G W0 hGW hl hTW hr hf
      obtain ⟨i, hi, hat, hte, hnm, e1, e2, x1, x2⟩ := ten_there hr hf
      rw [if_neg hf, hte]
      rw [if_neg (by decide), if_pos  rfl]
      cases hk : (keyRes s n num).2 with
      | false =>
        rw [if_pos rfl]
        exact of_ok s A c n _ _ _ _ G W0 hGW hl hTW hr i hi hat (fun _ _ => rfl) (fun _ => rfl) (fun V A' c' hb _ _ _ => ret1_none s.tens[i] A' c' s A c n num _ _ _ G V (fun b h => Nat.lt_of_lt_of_le (hGW b h) hb.size) hl (tensAt_keep hTW (fun b h => h) (kept_below hb hGW)) (hx0.call hb) (hx1.call hb) (hx2.call hb) hn hk)
      | true =>
        rw [if_neg (by decide)]
        by_cases hx : (newRes s n).1.num = num
        · rw [if_pos hx]
          exact of_ok s A c n _ _ _ _ G W0 hGW hl hTW hr i hi hat (fun _ _ => rfl) (fun _ => rfl) (fun V A' c' hb _ _ _ => ret1_last s.tens[i] A' c' s A c n num _ _ _ G V (fun b h => Nat.lt_of_lt_of_le (hGW b h) hb.size) hl (tensAt_keep hTW (fun b h => h) (kept_below hb hGW)) (hx0.call hb) (hx1.call hb) (hx2.call hb) hn hk hx)
        rw [if_neg hx]
        exact of_ok s A c n _ _ _ _ G W0 hGW hl hTW hr i hi hat (fun _ _ => rfl) (fun h => absurd rfl h) (fun V A' c' hb _ _ _ => ret1_ok s.tens[i] A' c' s A c n num _ _ _ G V (fun b h => Nat.lt_of_lt_of_le (hGW b h) hb.size) hl (tensAt_keep hTW (fun b h => h) (kept_below hb hGW)) (hx0.call hb) (hx1.call hb) (hx2.call hb) hn hk hx)
  generalize Pl.planR 3 s n key num = r at *
  obtain ⟨es, err⟩ := r
  have HOH := hide HO
  have HB0 := hid_mk hb0
  have HW0 := hid_mk hW0
  clear HO hb0 hG hT hGW hTW hx0 hx1 hx2 hW0
  go_enter Try.func50, Try.ntmps50
  go_wp2_with fail
  rw [← HW0.out]
  refine (unhide HOH).mono ?_
  rintro e w1 ⟨Ar, cr, rfl, hf1, hb1, hE⟩
  have HR := hid_mk (show RetPl es err w (.returned (.tuple #[.slice Ar es.length cr, .int .i64 err])) w1 from ⟨Ar, cr, rfl, hf1, HB0.out.trans (hb1.mono HB0.out.size), rows_keep hE (fun _ _ _ h => h) (fun b h => ⟨Nat.le_trans HB0.out.size h.1, h.2⟩) (fun b _ => rfl)⟩)
  clear hb1 hE HOH HB0 HW0
  go_wp2
  exact bodyPost_ret (v := .tuple #[.slice Ar es.length cr, .int .i64 err]) (by simp [results, Try.results50, go_sem]) rfl HR.out
theorem prev_any (s : Rn.S) (A : Option Addr) (c : Nat) (n : ByteArray) (num : Int) (key : ByteArray) (G : Nat → Prop) (w : World) (hG : ∀ b, G b → b < w.heap.size) (hl : s.tens.length ≤ maxLen) (hT : TensAt G w A s.tens) (hn : n.size ≤ maxLen) :
    Calls Try.prog 51 #[.agg #[.slice (A) (s).tens.length (c), .int .i64 (s).serial], .string n] w (RetPl (Pl.planR 4 s n key num).1 (Pl.planR 4 s n key num).2 w) := by
  obtain ⟨W0, hW0⟩ : ∃ W0, W0 = ((w.alloc (.cells #[.slice (A) (s).tens.length (c), .int .i64 (s).serial] 24)).alloc (.cells #[.string n] 9)) := ⟨_, rfl⟩
  have hb0 : Below w.heap.size w W0 := by rw [hW0]; exact (((Below.refl _ _).alloc (Nat.le_refl _) _).alloc (by simp <;> omega) _)
  have hx0 : Blk W0 (w.heap.size) #[.slice (A) (s).tens.length (c), .int .i64 (s).serial] 24 := by rw [hW0]; exact ((Blk.new w _ _).alloc _)
  have hx1 : Blk W0 (w.heap.size + 1) #[.string n] 9 := by rw [hW0]; exact (blk_new (by simp))
  have hGW : ∀ b, G b → b < W0.heap.size := fun b h => Nat.lt_of_lt_of_le (hG b h) hb0.size
  have hTW : TensAt G W0 A s.tens := tensAt_keep hT (fun b h => h) (kept_below hb0 hG)
  have HO : Calls Try.prog 58 #[.agg #[.slice (A) (s).tens.length (c), .int .i64 (s).serial], .string n, .func (.func 62) #[] #[.pointer (some ⟨w.heap.size + 1, 0, none⟩)]] W0 (RetPl (Pl.planR 4 s n key num).1 (Pl.planR 4 s n key num).2 W0) := by
    unfold Pl.planR
    cases hr : Rn.right s with
    | false => rw [if_pos rfl]; exact of_bad s A c n _ G W0 hGW hl hTW hr
    | true =>
      rw [if_neg (by decide), if_neg (by decide)]
      by_cases hf : findI s.tens n < 0
      · rw [if_pos hf]; exact of_none s A c n _ G W0 hGW hl hTW hr hf
      obtain ⟨i, hi, hat, hte, hnm, e1, e2, x1, x2⟩ := ten_there hr hf
      rw [if_neg hf, hte]
      rw [if_neg (by decide), if_neg (by decide), if_pos  rfl]
      have q1 : ∀ V : World, Below W0.heap.size W0 V → V.cell? ⟨w.heap.size + 1, 0, none⟩ = some (.string n) := fun V hb => (hx1.call hb).cell 0
      have l1 : ∀ V : World, Below W0.heap.size W0 V → w.heap.size + 1 < V.heap.size := fun V hb => (hx1.call hb).lt
      by_cases hx : s.tens[i].epoch = 1099511627776
      · rw [if_pos hx]
        exact of_ok s A c n _ _ _ _ G W0 hGW hl hTW hr i hi hat (fun _ _ => rfl) (fun _ => rfl) (fun V A' c' hb _ _ _ => rev1_full s.tens[i] A' c' n _ V (q1 V hb) (l1 V hb) hx)
      rw [if_neg hx]
      exact of_ok s A c n _ _ _ _ G W0 hGW hl hTW hr i hi hat (fun _ _ => rfl) (fun h => absurd rfl h) (fun V A' c' hb _ _ _ => rev1_ok s.tens[i] A' c' n _ V (q1 V hb) (l1 V hb) hn hx e1 e2)
  generalize Pl.planR 4 s n key num = r at *
  obtain ⟨es, err⟩ := r
  have HOH := hide HO
  have HB0 := hid_mk hb0
  have HW0 := hid_mk hW0
  clear HO hb0 hG hT hGW hTW hx0 hx1 hW0
  go_enter Try.func51, Try.ntmps51
  go_wp2_with fail
  rw [← HW0.out]
  refine (unhide HOH).mono ?_
  rintro e w1 ⟨Ar, cr, rfl, hf1, hb1, hE⟩
  have HR := hid_mk (show RetPl es err w (.returned (.tuple #[.slice Ar es.length cr, .int .i64 err])) w1 from ⟨Ar, cr, rfl, hf1, HB0.out.trans (hb1.mono HB0.out.size), rows_keep hE (fun _ _ _ h => h) (fun b h => ⟨Nat.le_trans HB0.out.size h.1, h.2⟩) (fun b _ => rfl)⟩)
  clear hb1 hE HOH HB0 HW0
  go_wp2
  exact bodyPost_ret (v := .tuple #[.slice Ar es.length cr, .int .i64 err]) (by simp [results, Try.results51, go_sem]) rfl HR.out
theorem pmint_any (s : Rn.S) (A : Option Addr) (c : Nat) (n : ByteArray) (num : Int) (key : ByteArray) (G : Nat → Prop) (w : World) (hG : ∀ b, G b → b < w.heap.size) (hl : s.tens.length ≤ maxLen) (hT : TensAt G w A s.tens) (hn : n.size ≤ maxLen) :
    Calls Try.prog 48 #[.agg #[.slice (A) (s).tens.length (c), .int .i64 (s).serial], .string n] w (RetPl (Pl.planR 5 s n key num).1 (Pl.planR 5 s n key num).2 w) := by
  obtain ⟨W0, hW0⟩ : ∃ W0, W0 = (w.alloc (.cells #[.slice (A) (s).tens.length (c), .int .i64 (s).serial] 24)) := ⟨_, rfl⟩
  have hb0 : Below w.heap.size w W0 := by rw [hW0]; exact ((Below.refl _ _).alloc (Nat.le_refl _) _)
  have hx0 : Blk W0 (w.heap.size) #[.slice (A) (s).tens.length (c), .int .i64 (s).serial] 24 := by rw [hW0]; exact (Blk.new w _ _)
  have hGW : ∀ b, G b → b < W0.heap.size := fun b h => Nat.lt_of_lt_of_le (hG b h) hb0.size
  have hTW : TensAt G W0 A s.tens := tensAt_keep hT (fun b h => h) (kept_below hb0 hG)
  have HO : Calls Try.prog 58 #[.agg #[.slice (A) (s).tens.length (c), .int .i64 (s).serial], .string n, .func (.func 59) #[] #[.pointer (some ⟨w.heap.size, 0, none⟩)]] W0 (RetPl (Pl.planR 5 s n key num).1 (Pl.planR 5 s n key num).2 W0) := by
    unfold Pl.planR
    cases hr : Rn.right s with
    | false => rw [if_pos rfl]; exact of_bad s A c n _ G W0 hGW hl hTW hr
    | true =>
      rw [if_neg (by decide), if_neg (by decide)]
      by_cases hf : findI s.tens n < 0
      · rw [if_pos hf]; exact of_none s A c n _ G W0 hGW hl hTW hr hf
      obtain ⟨i, hi, hat, hte, hnm, e1, e2, x1, x2⟩ := ten_there hr hf
      rw [if_neg hf, hte]
      rw [if_neg (by decide), if_neg (by decide), if_neg (by decide)]
      have q1 : ∀ V : World, Below W0.heap.size W0 V → V.cell? ⟨w.heap.size, 1, none⟩ = some (.int .i64 s.serial) := fun V hb => (hx0.call hb).cell 1
      have l1 : ∀ V : World, Below W0.heap.size W0 V → w.heap.size < V.heap.size := fun V hb => (hx0.call hb).lt
      have hser := Rn.fromB_iff.1 (Rn.right_parts hr).2.1
      by_cases hk : s.tens[i].keys.length = 0
      · rw [if_pos hk]
        exact of_ok s A c n _ _ _ _ G W0 hGW hl hTW hr i hi hat (fun _ _ => rfl) (fun _ => rfl) (fun V A' c' hb _ _ _ => mint1_none s.tens[i] A' c' s.serial _ V (q1 V hb) (l1 V hb) (by omega))
      rw [if_neg hk]
      by_cases hx : s.serial = 1099511627776
      · rw [if_pos hx]
        exact of_ok s A c n _ _ _ _ G W0 hGW hl hTW hr i hi hat (fun _ _ => rfl) (fun _ => rfl) (fun V A' c' hb _ _ _ => mint1_full s.tens[i] A' c' s.serial _ V (q1 V hb) (l1 V hb) (by omega) hx)
      rw [if_neg hx]
      exact of_ok s A c n _ _ _ _ G W0 hGW hl hTW hr i hi hat (fun _ _ => rfl) (fun h => absurd rfl h) (fun V A' c' hb _ _ _ => mint1_ok s.tens[i] A' c' s.serial _ V (q1 V hb) (l1 V hb) (by omega) hx (by omega) (by omega))
  generalize Pl.planR 5 s n key num = r at *
  obtain ⟨es, err⟩ := r
  have HOH := hide HO
  have HB0 := hid_mk hb0
  have HW0 := hid_mk hW0
  clear HO hb0 hG hT hGW hTW hx0 hW0
  go_enter Try.func48, Try.ntmps48
  go_wp2_with fail
  rw [← HW0.out]
  refine (unhide HOH).mono ?_
  rintro e w1 ⟨Ar, cr, rfl, hf1, hb1, hE⟩
  have HR := hid_mk (show RetPl es err w (.returned (.tuple #[.slice Ar es.length cr, .int .i64 err])) w1 from ⟨Ar, cr, rfl, hf1, HB0.out.trans (hb1.mono HB0.out.size), rows_keep hE (fun _ _ _ h => h) (fun b h => ⟨Nat.le_trans HB0.out.size h.1, h.2⟩) (fun b _ => rfl)⟩)
  clear hb1 hE HOH HB0 HW0
  go_wp2
  exact bodyPost_ret (v := .tuple #[.slice Ar es.length cr, .int .i64 err]) (by simp [results, Try.results48, go_sem]) rfl HR.out
end Go.Proofs.Ytgcgilcalmefgaa
namespace Go.Proofs.Ytgcgilcalmefgaa
open Go Go.RowKit Go.Sort
set_option maxRecDepth 100000
set_option linter.unusedSimpArgs false
set_option linter.unusedVariables false
set_option maxHeartbeats 4000000
theorem rimage_bad (s : Rn.S) (A : Option Addr) (c : Nat) (G : Nat → Prop) (w : World) (hG : ∀ b, G b → b < w.heap.size) (hl : s.tens.length ≤ maxLen) (hT : TensAt G w A s.tens) (hr : Rn.right s = false) :
    Calls Try.prog 31 #[.agg #[.slice (A) (s).tens.length (c), .int .i64 (s).serial]] w (RetEvs [] w) := by
  have hb0 : Below w.heap.size w (w.alloc (.cells #[.slice (A) (s).tens.length (c), .int .i64 (s).serial] 24)) := (Below.refl _ _).alloc (Nat.le_refl _) _
  have HC := hide (rright38_any s A c G _ (fun b h => Nat.lt_of_lt_of_le (hG b h) hb0.size) hl (tensAt_keep hT (fun b h => h) (kept_below hb0 hG)))
  rw [hr] at HC
  have HB0 := hid_mk hb0
  clear hb0 hG hT hr
  go_enter Try.func31, Try.ntmps31
  go_wp2_with fail
  refine (unhide HC).mono ?_
  rintro e w1 ⟨rfl, hb1⟩
  have HB1 := hid_mk (HB0.out.trans (hb1.mono HB0.out.size))
  clear hb1 HC
  go_wp2
  go_ret
  exact ⟨none, 0, rfl, Fits.none_, HB1.out, rows_nil⟩
theorem rimage_ok (s : Rn.S) (A : Option Addr) (c : Nat) (G : Nat → Prop) (w : World) (hG : ∀ b, G b → b < w.heap.size) (hl : s.tens.length ≤ maxLen) (hT : TensAt G w A s.tens) (hr : Rn.right s = true) :
    Calls Try.prog 31 #[.agg #[.slice (A) (s).tens.length (c), .int .i64 (s).serial]] w (RetEvs (Pl.imageL s) w) := by
  obtain ⟨i0, hi, hz0, hz1, hz2⟩ := info_parts event_info
  have hb0 : Below w.heap.size w (w.alloc (.cells #[.slice (A) (s).tens.length (c), .int .i64 (s).serial] 24)) := (Below.refl _ _).alloc (Nat.le_refl _) _
  have HC := hide (rright38_any s A c G _ (fun b h => Nat.lt_of_lt_of_le (hG b h) hb0.size) hl (tensAt_keep hT (fun b h => h) (kept_below hb0 hG)))
  rw [hr] at HC
  have h16 := (Rn.right_parts hr).1
  have hk8 : ∀ t ∈ s.tens, t.keys.length ≤ 8 := fun t ht => (Rn.ten_parts ((Rn.right_parts hr).2.2.1 t ht)).2.2.2.1
  have hsz : ∀ e ∈ Pl.imageL s, e.ten.size ≤ maxLen ∧ e.txt.size ≤ maxLen := fun e he => by
    have hz : (⟨#[]⟩ : ByteArray).size ≤ maxLen := Nat.zero_le _
    unfold Pl.imageL at he
    rcases List.mem_append.1 he with he | he
    · obtain ⟨t, ht, he⟩ := List.mem_flatMap.1 he
      obtain ⟨i, hi, rfl⟩ := List.mem_iff_getElem.1 ht
      obtain ⟨b, o, A', c', -, -, -, -, hn, hks, -⟩ := tens_at hT hi
      rcases List.mem_cons.1 he with rfl | he
      · exact ⟨hn, hz⟩
      · obtain ⟨k, hk, rfl⟩ := List.mem_map.1 he
        obtain ⟨m, hm, rfl⟩ := List.mem_iff_getElem.1 hk
        obtain ⟨_, _, _, _, hx, _⟩ := keys_at hks hm
        exact ⟨hn, hx⟩
    · simp at he; subst he; exact ⟨hz, hz⟩
  have HB0 := hid_mk hb0
  have HX0 := hid_mk (Blk.new w #[.slice (A) (s).tens.length (c), .int .i64 (s).serial] 24)
  have HT := hid_mk hT
  have HG := hid_mk hG
  have HK8 := hid_mk hk8
  have H16 := hid_mk h16
  have HSZ := hid_mk hsz
  clear hb0 hG hT hr h16 hk8 hsz
  go_enter Try.func31, Try.ntmps31
  go_wp2_with fail
  refine (unhide HC).mono ?_
  rintro e w1 ⟨rfl, hb1⟩
  have HB1 := hid_mk (HB0.out.trans (hb1.mono HB0.out.size))
  have HX1 := hid_mk (HX0.out.call hb1)
  have hx1 := HX1.out
  have hw1 : w.heap.size < w1.heap.size := hx1.lt
  (have y0 : w1.cell? ⟨w.heap.size, 0, none⟩ = some (.slice (A) (s).tens.length (c)) := hx1.cell 0; have y1 : w1.cell? ⟨w.heap.size, 1, none⟩ = some (.int .i64 (s).serial) := hx1.cell 1; have yf : ∀ i, w1.frozen? ⟨w.heap.size, i, none⟩ = false := hx1.frozen)
  clear hb1 HC hx1 HX0 HB0
  go_wp2
  clear y0 y1 yf
  go_loopw [3, 4, 5] (fun u v _ wr => ∃ j : Nat, j ≤ s.tens.length ∧ v = .int .i64 (j : Nat) ∧ EvI w1.heap.size w1 0 ((s.tens.take j).flatMap Pl.tenEs) u wr) (fun _ v _ _ => s.tens.length - (intOf v).toNat)
  case atStart => exact ⟨0, Nat.zero_le _, rfl, World.ownsRow_nil _ _ _ _, Below.refl _ _, Nat.le_refl _, by simp [Value.ownBlock]⟩
  case round =>
    obtain ⟨j, hj, rfl, hI⟩ := hrel
    obtain ⟨Au, cu, rfl⟩ := own_slice hI.1
    have hx1 := HX1.out.call hI.2.1
    have hlen := tens_take_len H16.out HK8.out j
    have hwr : w1.heap.size ≤ wr.heap.size := hI.2.2.1
    have HXR := hid_mk hx1
    have HI := hid_mk hI
    have HLEN := hid_mk hlen
    by_cases hlt : j < s.tens.length
    case neg =>
      have hn : ¬ ((j : Int) < (s.tens.length : Int)) := by omega
      have hjl : s.tens.take j = s.tens := List.take_of_length_le (by omega)
      have HIM : Hid (Pl.imageL s = (s.tens.take j).flatMap Pl.tenEs ++ [Pl.evS s.serial]) := hid_mk (by rw [hjl]; rfl)
      (have y0 : wr.cell? ⟨w.heap.size, 0, none⟩ = some (.slice (A) (s).tens.length (c)) := hx1.cell 0; have y1 : wr.cell? ⟨w.heap.size, 1, none⟩ = some (.int .i64 (s).serial) := hx1.cell 1; have yf : ∀ i, wr.frozen? ⟨w.heap.size, i, none⟩ = false := hx1.frozen)
      clear hx1 hI hjl hlen
      generalize (s.tens.take j).flatMap Pl.tenEs = es at *
      have HNB := hid_mk (World.news_of_block (Blk.new wr (evV (Pl.evS s.serial)).toArray 26))
      have HIA := hid_mk (evI_keep HI.out ((Below.refl _ _).alloc (Nat.le_refl _) (.cells (evV (Pl.evS s.serial)).toArray 26)))
      go_wp2_with (at_builtin; refine wpList_append_own_at _ rfl _ _ 39 rfl w1.heap.size 26 i0 _ 5 56 Try.underlying39 hi hz0 hz1 hz2 rfl (by decide) _ _ (es.flatMap evV) rfl HIA.out.1 ⟨wr.heap.size, 0, none⟩ 1 1 (evV (Pl.evS s.serial)) rfl rfl ?_ ?_ ?_ ?_ ?_ ?_)
      any_goals (first | exact HNB.out | exact (fun j u h => h) | exact evV_one _ | (have := HLEN.out; unfold maxLen; simp; omega) | (have := HLEN.out; omega) | (simp; omega))
      intro v' w2 hown hgr hnil hat
      have hap := evI_append HIA.out (by simp) hown hgr (by simpa using hat)
      have HR := hid_mk (evs_end HB1.out (by omega) (by rw [← HIM.out]; exact HSZ.out) hap.1)
      clear hown hgr hnil hat hap HIA HNB
      go_wp2
      go_ret
      rw [HIM.out]
      exact HR.out
    have hTr := tensAt_keep HT.out (fun b h => h) (kept_below (HB1.out.trans (hI.2.1.mono HB1.out.size)) HG.out)
    obtain ⟨b, o, A', c', e1, hg1, hft, hsl, hsn, hks, p0, p1, p2, p3⟩ := tens_at hTr hlt
    subst e1
    have hkl := HK8.out _ (List.getElem_mem hlt)
    have htk : (s.tens.take (j + 1)).flatMap Pl.tenEs = (s.tens.take j).flatMap Pl.tenEs ++ Pl.evT s.tens[j].name s.tens[j].next s.tens[j].epoch :: Pl.keyEs s.tens[j].name s.tens[j].keys := by
      rw [List.take_succ_eq_append_getElem hlt, List.flatMap_append]; simp [Pl.tenEs]
    have HTK := hid_mk htk
    have hgb : b < w.heap.size := HG.out b hg1
    generalize s.tens[j] = t at *
    have hba : Below wr.heap.size wr (wr.alloc (.cells #[.string (t).name, .int .i64 (t).epoch, .int .i64 (t).next, .slice (A') (t).keys.length (c')] 38)) := (Below.refl _ _).alloc (Nat.le_refl _) _
    have hIt : EvI w1.heap.size w1 wr.heap.size ((s.tens.take j).flatMap Pl.tenEs) (.slice Au ((s.tens.take j).flatMap Pl.tenEs).length cu) wr := ⟨hI.1, hI.2.1, hI.2.2.1, fun e => by have := (hI.1.lt _ e).2; omega⟩
    have HIT := hid_mk (evI_keep hIt hba)
    have HBT := hid_mk (Blk.new wr #[.string (t).name, .int .i64 (t).epoch, .int .i64 (t).next, .slice (A') (t).keys.length (c')] 38)
    have HKS := hid_mk hks
    have HNU : Hid ((Value.slice Au ((s.tens.take j).flatMap Pl.tenEs).length cu).ownBlock ≠ some wr.heap.size) := hid_mk hIt.2.2.2
    have HBR := hid_mk (HB1.out.trans (hI.2.1.mono HB1.out.size))
    have h16 := H16.out
    have hjl : (j : Int) < (s.tens.length : Int) := by omega
    have hlt2 : j < s.tens.length := hlt
    have hx0 : wr.cell? ⟨w.heap.size, 0, none⟩ = some (.slice (some ⟨b, o, none⟩) s.tens.length c) := hx1.cell 0
    clear hx1 hI hTr hft hsl hsn hks htk hba hIt hlen HI HXR
    generalize (s.tens.take j).flatMap Pl.tenEs = es at *
    have HNB := hid_mk (World.news_of_block (show Blk ((wr.alloc (.cells #[.string (t).name, .int .i64 (t).epoch, .int .i64 (t).next, .slice (A') (t).keys.length (c')] 38)).alloc (.cells (evV (Pl.evT t.name t.next t.epoch)).toArray 26)) (wr.heap.size + 1) (evV (Pl.evT t.name t.next t.epoch)).toArray 26 from blk_new (by simp)))
    have HIA := hid_mk (evI_keep HIT.out ((Below.refl _ _).alloc (Nat.le_refl _) (.cells (evV (Pl.evT t.name t.next t.epoch)).toArray 26)))
    go_wp2_with (at_builtin; refine wpList_append_own_at _ rfl _ _ 39 rfl w1.heap.size 26 i0 _ 5 56 Try.underlying39 hi hz0 hz1 hz2 rfl (by decide) _ _ (es.flatMap evV) rfl HIA.out.1 ⟨wr.heap.size + 1, 0, none⟩ 1 1 (evV (Pl.evT t.name t.next t.epoch)) rfl rfl ?_ ?_ ?_ ?_ ?_ ?_)
    any_goals (first | exact HNB.out | exact (fun j u h => h) | exact evV_one _ | (have := HLEN.out; unfold maxLen; simp; omega) | (have := HLEN.out; omega) | (simp; omega))
    intro v1 w2 hown hgr hnil hat
    have hap := evI_append HIA.out (by simp; omega) hown hgr (by simpa using hat)
    obtain ⟨A1, c1, rfl⟩ := own_slice hown
    have hbt := hap.2.1 _ _ _ (HBT.out.alloc (.cells (evV (Pl.evT t.name t.next t.epoch)).toArray 26)) HNU.out
    have hsz2 : wr.heap.size + 2 ≤ w2.heap.size := by have := hap.2.2; simp at this; omega
    have HI2 : Hid (EvI w1.heap.size w1 wr.heap.size (es ++ [Pl.evT t.name t.next t.epoch]) (.slice A1 (es.length + 1) c1) w2) := hid_mk hap.1
    have HBT2 := hid_mk hbt
    have hb3 : w2.cell? ⟨wr.heap.size, 3, none⟩ = some (.slice A' t.keys.length c') := hbt.cell 3
    obtain ⟨wo, hwo⟩ : ∃ wo, wo = wr := ⟨_, rfl⟩
    subst hwo
    clear hown hgr hnil hat hap hbt HIA HNB HIT HBT HNU
    go_wp2
    clear hb3
    go_loopw [3, 6] (fun u v wr => ∃ m : Nat, m ≤ t.keys.length ∧ v = .int .i64 (m : Nat) ∧ EvI w1.heap.size w1 wo.heap.size (es ++ Pl.evT t.name t.next t.epoch :: Pl.keyEs t.name (t.keys.take m)) u wr ∧ Blk wr wo.heap.size #[.string (t).name, .int .i64 (t).epoch, .int .i64 (t).next, .slice (A') (t).keys.length (c')] 38 ∧ wo.heap.size + 2 ≤ wr.heap.size) (fun _ v _ => t.keys.length - (intOf v).toNat)
    case atStart => exact ⟨0, Nat.zero_le _, rfl, HI2.out, HBT2.out, hsz2⟩
    case round =>
      obtain ⟨m, hm, rfl, hI, hbt, hwi⟩ := hrel
      obtain ⟨Av, cv, rfl⟩ := own_slice hI.1
      have HI := hid_mk hI
      have HBT := hid_mk hbt
      clear HI2 HBT2
      have hl2 : (es ++ Pl.evT t.name t.next t.epoch :: Pl.keyEs t.name (t.keys.take m)).length ≤ 200 := by
        have := HLEN.out
        unfold Pl.keyEs
        rw [List.length_append, List.length_cons, List.length_map, List.length_take]
        omega
      by_cases hmt : m < t.keys.length
      case neg =>
        have hn : ¬ ((m : Int) < (t.keys.length : Int)) := by omega
        have hjm : t.keys.take m = t.keys := List.take_of_length_le (by omega)
        have HX : Hid (∃ j' : Nat, j' ≤ s.tens.length ∧ Value.int .i64 ((j : Int) + 1) = .int .i64 (j' : Nat) ∧ EvI w1.heap.size w1 0 ((s.tens.take j').flatMap Pl.tenEs) (.slice Av (es ++ Pl.evT t.name t.next t.epoch :: Pl.keyEs t.name (t.keys.take m)).length cv) wr) := hid_mk ⟨j + 1, by omega, by rw [show ((j + 1 : Nat) : Int) = (j : Int) + 1 by omega], by
          rw [HTK.out]
          rw [hjm] at hI ⊢
          exact ⟨hI.1, hI.2.1, hI.2.2.1, fun e => by have := (hI.1.lt _ e).1; omega⟩⟩
        have hbt3 : wr.cell? ⟨wo.heap.size, 3, none⟩ = some (.slice A' t.keys.length c') := hbt.cell 3
        clear hI hbt hjm hl2
        generalize es ++ Pl.evT t.name t.next t.epoch :: Pl.keyEs t.name (t.keys.take m) = es2 at *
        go_wp2
        go_roundw
        case rel => exact HX.out
        case measure => simp [intOf]; omega
      have hKr := keysAt_keep HKS.out (fun b h => h) (w' := wr) (fun b hb => ((HB1.out.trans (hI.2.1.mono HB1.out.size)).block b (HG.out b hb)).trans (HBR.out.block b (HG.out b hb)).symm)
      obtain ⟨b3, o3, e3, hg3, hkx, q0, q1⟩ := keys_at hKr hmt
      subst e3
      have hkt : t.keys.take (m + 1) = t.keys.take m ++ [t.keys[m]] := List.take_succ_eq_append_getElem hmt
      have HKT : Hid (es ++ Pl.evT t.name t.next t.epoch :: Pl.keyEs t.name (t.keys.take (m + 1)) = (es ++ Pl.evT t.name t.next t.epoch :: Pl.keyEs t.name (t.keys.take m)) ++ [Pl.evK t.name t.keys[m].num t.keys[m].txt]) := hid_mk (by rw [hkt]; unfold Pl.keyEs; rw [List.map_append]; simp only [List.map_cons, List.map_nil, List.append_assoc, List.cons_append])
      generalize t.keys[m] = k at *
      have hml : (m : Int) < (t.keys.length : Int) := by omega
      have hmt2 : m < t.keys.length := hmt
      have hbt0 : wr.cell? ⟨wo.heap.size, 0, none⟩ = some (.string t.name) := hbt.cell 0
      have hbt3 : wr.cell? ⟨wo.heap.size, 3, none⟩ = some (.slice (some ⟨b3, o3, none⟩) t.keys.length c') := hbt.cell 3
      have z0 : ∀ p : InB (Below wr.heap.size wr), p.w.cell? ⟨wo.heap.size, 0, none⟩ = some (.string t.name) := fun p => cell_in p.ok hbt0
      have z3 : ∀ p : InB (Below wr.heap.size wr), p.w.cell? ⟨wo.heap.size, 3, none⟩ = some (.slice (some ⟨b3, o3, none⟩) t.keys.length c') := fun p => cell_in p.ok hbt3
      have z4 : ∀ p : InB (Below wr.heap.size wr), p.w.cell? ⟨b3, o3 + m * 2, none⟩ = some (.int .i64 k.num) := fun p => cell_in p.ok q0
      have z5 : ∀ p : InB (Below wr.heap.size wr), p.w.cell? ⟨b3, o3 + m * 2 + 1, none⟩ = some (.string k.txt) := fun p => cell_in p.ok q1
      have HL2 := hid_mk hl2
      clear hKr hkt hI hbt hl2 hbt0 q0 q1
      generalize es ++ Pl.evT t.name t.next t.epoch :: Pl.keyEs t.name (t.keys.take m) = es2 at *
      have HNB := hid_mk (World.news_of_block (show Blk ((wr.drew).alloc (.cells (evV (Pl.evK t.name k.num k.txt)).toArray 26)) wr.heap.size (evV (Pl.evK t.name k.num k.txt)).toArray 26 from Blk.new wr.drew _ _))
      have HIA := hid_mk (evI_keep HI.out ((Below.refl _ _).drew.alloc (Nat.le_refl _) (.cells (evV (Pl.evK t.name k.num k.txt)).toArray 26)))
      have HSL := hid_mk (show wr.heap.size < (wr.drew.alloc (.cells (evV (Pl.evK t.name k.num k.txt)).toArray 26)).heap.size by simp)
      go_wp2
      clear hbt3
      (refine region_planT (S := Meets (Below wr.heap.size wr)) (.read 0 _ (.read 1 _ (.read 2 _ (.read 3 _ (.read 4 _ (.read 5 _ (.read 6 _ (.read 7 _ (.read 8 _ (.read 9 _ (.read 10 _ (.read 11 _ (.read 12 _ (.read 13 _ (.read 14 _ (.read 15 _ (.one 16 _ .tail))))))))))))))))) 17 (by kernel_rfl) (by kernel_rfl) ⟨rfl, ⟨rfl, ⟨rfl, ⟨rfl, ⟨rfl, ⟨rfl, ⟨rfl, ⟨rfl, ⟨rfl, ⟨rfl, ⟨rfl, ⟨rfl, ⟨rfl, ⟨rfl, ⟨rfl, ⟨rfl, ⟨rfl, trivial⟩⟩⟩⟩⟩⟩⟩⟩⟩⟩⟩⟩⟩⟩⟩⟩⟩ (by kernel_rfl) (by kernel_rfl) (by kernel_rfl) (by kernel_rfl) (fun d v c a w h => by cases d <;> exact h) (meets_mk ?_) ?_)
      · exact (Below.refl _ _).drew
      intro J2 hJ2
      have HJ2 := hid_mk hJ2
      clear hJ2
      (repeat (refine planWp_read (fun K hK => ?_); go_simp; (first | (refine hK _ ?_; clear hK K) | (apply Exists.intro; refine ⟨fun _ => rfl, hK _ ?_⟩; clear hK K))))
      refine planWp_value (.slice (some ⟨wr.heap.size, 0, none⟩) 1 1) rfl (w' := wr.drew.alloc (.cells (evV (Pl.evK t.name k.num k.txt)).toArray 26)) (by go_simp; rfl) (meets_mk ((Below.refl _ _).drew.alloc (Nat.le_refl _) _)) ?_
      refine planWp_tail (HJ2.out _ _ (meets_mk ((Below.refl _ _).drew.alloc (Nat.le_refl _) _)) ?_)
      simp only [List.drop_succ_cons, List.drop_zero]
      clear HJ2 z0 z3 z4 z5
      refine wpList_append_own_at _ rfl _ _ 39 rfl w1.heap.size 26 i0 _ 5 56 Try.underlying39 hi hz0 hz1 hz2 rfl (by decide) _ _ (es2.flatMap evV) rfl HIA.out.1 ⟨wr.heap.size, 0, none⟩ 1 1 (evV (Pl.evK t.name k.num k.txt)) rfl rfl ?_ ?_ ?_ ?_ ?_ ?_
      any_goals (first | exact HNB.out | exact (fun j u h => h) | exact evV_one _ | (have := HL2.out; unfold maxLen; simp; omega) | (have := HL2.out; omega) | (simp; omega))
      intro v2 w3 hown hgr hnil hat
      have hap := evI_append HIA.out (by simp; omega) hown hgr hat
      obtain ⟨A2, c2, rfl⟩ := own_slice hown
      have hbt2 := hap.2.1 _ _ _ ((show Blk wr.drew wo.heap.size _ _ from HBT.out).alloc (.cells (evV (Pl.evK t.name k.num k.txt)).toArray 26)) HI.out.2.2.2
      have HX : Hid (∃ m' : Nat, m' ≤ t.keys.length ∧ Value.int .i64 ((m : Int) + 1) = .int .i64 (m' : Nat) ∧ EvI w1.heap.size w1 wo.heap.size (es ++ Pl.evT t.name t.next t.epoch :: Pl.keyEs t.name (t.keys.take m')) (.slice A2 (es2.length + 1) c2) w3 ∧ Blk w3 wo.heap.size #[.string (t).name, .int .i64 (t).epoch, .int .i64 (t).next, .slice ((some ⟨b3, o3, none⟩)) (t).keys.length (c')] 38 ∧ wo.heap.size + 2 ≤ w3.heap.size) :=
        hid_mk ⟨m + 1, by omega, by rw [show ((m + 1 : Nat) : Int) = (m : Int) + 1 by omega], by rw [HKT.out]; exact hap.1, hbt2, by have := hap.2.2; simp at this; omega⟩
      clear hown hgr hnil hat hap hbt2 HIA HNB HI HBT HSL
      go_wp2
      go_roundw
      case rel => exact HX.out
      case measure => simp [intOf]; omega
end Go.Proofs.Ytgcgilcalmefgaa
namespace Go.Proofs.Ytgcgilcalmefgaa
open Go
set_option linter.unusedVariables false
namespace Pl
open Rn
theorem there_mem {s : S} {x : T} (hr : right s = true) (hx : x ∈ s.tens) : hasT s.tens x.name = true ∧ ∃ hi : spotT s.tens x.name < s.tens.length, s.tens[spotT s.tens x.name] = x ∧ findI s.tens x.name = (spotT s.tens x.name : Int) := by
  have h4 := (right_parts hr).2.2.2
  obtain ⟨j, hj, hf, e⟩ := find_mem h4 hx
  have hh := findI_has (n := x.name) h4
  cases h : hasT s.tens x.name with
  | false => rw [h, if_neg (by decide), hf] at hh; omega
  | true =>
    rw [h, if_pos rfl, hf] at hh
    have : j = spotT s.tens x.name := by omega
    subst this
    exact ⟨rfl, hj, e, hf⟩
theorem form_T {n : ByteArray} {num epoch : Int} (hw : Nm.wordB n.data.toList = true) (h1 : fromB epoch 0 = true) (h2 : fromB num 1 = true) : form (evT n num epoch) = true := by
  unfold form evT
  dsimp only
  rw [if_pos rfl, hw, h1, h2]
  rfl
theorem form_K {n : ByteArray} {num : Int} {txt : ByteArray} (hw : Nm.wordB n.data.toList = true) (h2 : fromB num 1 = true) (h3 : txt.size = 32) : form (evK n num txt) = true := by
  unfold form evK
  dsimp only
  rw [if_neg (by decide), if_pos rfl, hw, h2]
  simp [h3]
theorem form_D {n : ByteArray} {num : Int} (hw : Nm.wordB n.data.toList = true) (h2 : fromB num 1 = true) : form (evD n num) = true := by
  unfold form evD
  dsimp only
  rw [if_neg (by decide), if_neg (by decide), if_pos rfl, hw, h2]
  rfl
theorem form_S {num : Int} (h2 : fromB num 0 = true) : form (evS num) = true := by
  unfold form evS
  dsimp only
  rw [if_neg (by decide), if_neg (by decide), if_neg (by decide), if_pos rfl, h2]
  rfl
theorem run_one {s t : S} {e : E} (hf : form e = true) (hd : doE s e = .ok t) : run s [e] = .ok t := by
  rw [run_eq, if_neg (by rw [hf]; decide), hd]; rfl
theorem run_two {s u t : S} {e f : E} (hf : form e = true) (hd : doE s e = .ok u) (hf2 : form f = true) (hd2 : doE u f = .ok t) : run s [e, f] = .ok t := by
  rw [run_eq, if_neg (by rw [hf]; decide), hd]
  exact run_one hf2 hd2
theorem del_no {ks : List K} {j : Nat} (hj : j < ks.length) (hr : rises ltK ks = true) : ∀ x ∈ del ks j, x.num ≠ ks[j].num := by
  have hp : ks.Pairwise (fun a b => a.num < b.num) := by
    have := rises_pw (key := K.num) (lt := fun a b => decide (a < b)) numlt_tr ks hr
    simpa using this
  have h := List.pairwise_iff_getElem.1 hp
  intro x hx
  unfold del at hx
  rcases List.mem_append.1 hx with hx | hx
  · obtain ⟨i, hi, rfl⟩ := List.mem_iff_getElem.1 hx
    rw [List.length_take] at hi
    rw [List.getElem_take]
    have := h i j (by omega) hj (by omega)
    omega
  · obtain ⟨i, hi, rfl⟩ := List.mem_iff_getElem.1 hx
    rw [List.length_drop] at hi
    rw [List.getElem_drop]
    have := h j (j + 1 + i) hj (by omega) (by omega)
    omega
theorem plan_one {s : S} {n key : ByteArray} {num : Int} {l : List E} (hr : right s = true) (h : planR 1 s n key num = (l, 0)) : ∃ t, run s l = .ok t ∧ right t = true ∧ Done 1 s t n key num := by
  unfold planR at h
  rw [if_neg (by rw [hr]; decide), if_pos rfl] at h
  cases hw : Nm.wordB n.data.toList with
  | false => rw [if_pos hw] at h; cases h
  | true =>
  rw [if_neg (by rw [hw]; decide)] at h
  by_cases hk : key.size ≠ 32
  · rw [if_pos hk] at h; cases h
  rw [if_neg hk] at h
  by_cases hf : 0 ≤ findI s.tens n
  · rw [if_pos hf] at h; cases h
  rw [if_neg hf] at h
  by_cases h16 : s.tens.length = 16
  · rw [if_pos h16] at h; cases h
  rw [if_neg h16] at h
  cases h
  obtain ⟨hh, hz⟩ := find_not hr hf
  have f1 : form (evT n 2 0) = true := form_T hw (by decide) (by decide)
  have f2 : form (evK n 1 key) = true := form_K hw (by decide) (by omega)
  have d1 : doE s (evT n 2 0) = .ok ⟨ins s.tens (spotT s.tens n) ⟨n, 0, 2, []⟩, s.serial⟩ := by
    show doTen s (evT n 2 0) = _
    unfold doTen evT
    dsimp only
    rw [hh, if_neg (fun h => h16 h.2), if_neg (by simp), ins_get _ (spotT_le _ _)]
    dsimp only
    rw [if_neg (by show ¬ ((0 : Int) < 0 ∨ (2 : Int) < 0); omega), ins_set _ (spotT_le _ _)]
    rfl
  have hr1 := (do_rose hr f1 d1).1
  obtain ⟨g1, gi, ge, gf⟩ := there_mem (x := ⟨n, 0, 2, []⟩) hr1 (mem_ins.2 (Or.inl rfl))
  have d2 := doKey_there (num := 1) (txt := key) (t := ⟨n, 0, 2, []⟩) g1 rfl gi ge (by show (1 : Int) < 2; decide) (fun k hk => by cases hk) (by show (0 : Nat) < 8; decide)
  refine ⟨_, run_two f1 d1 f2 d2, (do_rose hr1 f2 d2).1, spotT (ins s.tens (spotT s.tens n) ⟨n, 0, 2, []⟩) n, by rw [List.length_set]; exact gi, ?_, fun _ => ?_, (fun h => by cases h), (fun h => by cases h), (fun h => by cases h), fun _ => rfl, fun h => absurd rfl h, fun _ => ?_⟩
  · dsimp only; rw [findI_set gi (by rw [ge])]; exact gf
  · have hn := newRes_at (t := ⟨(ins s.tens (spotT s.tens n) ⟨n, 0, 2, []⟩).set (spotT (ins s.tens (spotT s.tens n) ⟨n, 0, 2, []⟩) n) ⟨n, 0, 2, [] ++ [⟨1, key⟩]⟩, s.serial⟩) (n := n) (k := spotT (ins s.tens (spotT s.tens n) ⟨n, 0, 2, []⟩) n) (ks := []) (x := ⟨1, key⟩) (by rw [List.length_set]; exact gi) (by dsimp only; rw [findI_set gi (by rw [ge])]; exact gf) (by dsimp only; rw [List.getElem_set_self])
    rw [hz]
    refine ⟨by rw [hn], by rw [hn], ?_, ?_⟩
    · dsimp only; rw [List.getElem_set_self]; rfl
    · dsimp only; rw [List.getElem_set_self]; rfl
  · dsimp only; rw [List.length_set, ins_length (spotT_le _ _)]
theorem plan_two {s : S} {n key : ByteArray} {num : Int} {l : List E} (hr : right s = true) (h : planR 2 s n key num = (l, 0)) : ∃ t, run s l = .ok t ∧ right t = true ∧ Done 2 s t n key num := by
  unfold planR at h
  rw [if_neg (by rw [hr]; decide), if_neg (by decide)] at h
  by_cases hf : findI s.tens n < 0
  · rw [if_pos hf] at h; cases h
  rw [if_neg hf, if_pos rfl] at h
  by_cases hk : key.size ≠ 32
  · rw [if_pos hk] at h; cases h
  rw [if_neg hk] at h
  obtain ⟨hh, hi, hfi, hta, hnm⟩ := find_there hr hf
  by_cases hc : (tenAt s n).keys.length = 8 ∨ (tenAt s n).next = 1099511627776
  · rw [if_pos hc] at h; cases h
  rw [if_neg hc] at h
  cases h
  obtain ⟨k1, k2, k3, k4, k5, k6⟩ := ten_parts ((right_parts hr).2.2.1 _ (List.getElem_mem hi))
  unfold Done
  rw [hta] at hc ⊢
  generalize hs : spotT s.tens n = i at *
  generalize ht : s.tens[i] = t at *
  have k3' := fromB_iff.1 k3
  subst hnm
  have f1 : form (evT t.name (t.next + 1) t.epoch) = true := form_T k1 k2 (fromB_iff.2 ⟨by omega, by omega⟩)
  have f2 : form (evK t.name t.next key) = true := form_K k1 k3 (by omega)
  have d1 := doTen_there (num := t.next + 1) (epoch := t.epoch) hh hs hi ht (Int.le_refl _) (by omega)
  have hr1 := (do_rose hr f1 d1).1
  have hm : (⟨t.name, t.epoch, t.next + 1, t.keys⟩ : T) ∈ s.tens.set i ⟨t.name, t.epoch, t.next + 1, t.keys⟩ := List.mem_iff_getElem.2 ⟨i, by rw [List.length_set]; exact hi, by rw [List.getElem_set_self]⟩
  obtain ⟨g1, gi, ge, gf⟩ := there_mem (x := ⟨t.name, t.epoch, t.next + 1, t.keys⟩) hr1 hm
  dsimp only at g1 gi ge gf
  have d2 := doKey_there (s := ⟨s.tens.set i ⟨t.name, t.epoch, t.next + 1, t.keys⟩, s.serial⟩) (n := t.name) (num := t.next) (txt := key) (t := ⟨t.name, t.epoch, t.next + 1, t.keys⟩) g1 rfl gi ge (by show t.next < t.next + 1; omega) (fun k hk => (keyB_iff.1 (k5 k hk)).2.1) (by show t.keys.length < 8; omega)
  dsimp only at d2
  have hfs : findI ((s.tens.set i ⟨t.name, t.epoch, t.next + 1, t.keys⟩).set (spotT (s.tens.set i ⟨t.name, t.epoch, t.next + 1, t.keys⟩) t.name) ⟨t.name, t.epoch, t.next + 1, t.keys ++ [⟨t.next, key⟩]⟩) t.name = (spotT (s.tens.set i ⟨t.name, t.epoch, t.next + 1, t.keys⟩) t.name : Int) := by
    rw [findI_set gi (by rw [ge])]; exact gf
  refine ⟨_, run_two f1 d1 f2 d2, (do_rose hr1 f2 d2).1, spotT (s.tens.set i ⟨t.name, t.epoch, t.next + 1, t.keys⟩) t.name, by rw [List.length_set]; exact gi, hfs, fun _ => ?_, (fun h => by cases h), (fun h => by cases h), (fun h => by cases h), fun _ => rfl, fun h => ?_, (fun h => by cases h)⟩
  · have hn := newRes_at (t := ⟨(s.tens.set i ⟨t.name, t.epoch, t.next + 1, t.keys⟩).set (spotT (s.tens.set i ⟨t.name, t.epoch, t.next + 1, t.keys⟩) t.name) ⟨t.name, t.epoch, t.next + 1, t.keys ++ [⟨t.next, key⟩]⟩, s.serial⟩) (n := t.name) (ks := t.keys) (x := ⟨t.next, key⟩) (by rw [List.length_set]; exact gi) hfs (by dsimp only; rw [List.getElem_set_self])
    refine ⟨by rw [hn], by rw [hn], ?_, ?_⟩
    · dsimp only; rw [List.getElem_set_self]; simp
    · dsimp only; rw [List.getElem_set_self]
  · dsimp only; rw [List.length_set, List.length_set]
theorem keyRes_has {s : S} {n : ByteArray} {num : Int} {i : Nat} (hi : i < s.tens.length) (hf : findI s.tens n = (i : Int)) (hr : rises ltK s.tens[i].keys = true) : (keyRes s n num).2 = hasK s.tens[i].keys num := by
  have hk := keyI_has (n := num) hr
  cases h : hasK s.tens[i].keys num with
  | false =>
    rw [h, if_neg (by decide)] at hk
    rw [keyRes_no hi hf hk]
  | true =>
    rw [h, if_pos rfl] at hk
    rw [keyRes_yes hi hf (spotK_hit h).1 hk]
theorem plan_three {s : S} {n key : ByteArray} {num : Int} {l : List E} (hr : right s = true) (h : planR 3 s n key num = (l, 0)) : ∃ t, run s l = .ok t ∧ right t = true ∧ Done 3 s t n key num := by
  unfold planR at h
  rw [if_neg (by rw [hr]; decide), if_neg (by decide)] at h
  by_cases hf : findI s.tens n < 0
  · rw [if_pos hf] at h; cases h
  rw [if_neg hf, if_neg (by decide), if_pos rfl] at h
  obtain ⟨hh, hi, hfi, hta, hnm⟩ := find_there hr hf
  obtain ⟨k1, k2, k3, k4, k5, k6⟩ := ten_parts ((right_parts hr).2.2.1 _ (List.getElem_mem hi))
  have hkr := keyRes_has (num := num) hi hfi k6
  rw [hkr] at h
  unfold Done
  rw [hta]
  generalize hs : spotT s.tens n = i at *
  generalize ht : s.tens[i] = t at *
  cases hk : hasK t.keys num with
  | false => rw [if_pos hk] at h; cases h
  | true =>
  rw [if_neg (by rw [hk]; decide)] at h
  by_cases hnw : (newRes s n).1.num = num
  · rw [if_pos hnw] at h; cases h
  rw [if_neg hnw] at h
  cases h
  rw [hnm] at k1
  obtain ⟨hkl, hkn⟩ := spotK_hit hk
  have hkb := keyB_iff.1 (k5 _ (List.getElem_mem hkl))
  have k3' := fromB_iff.1 k3
  have f1 : form (evD n num) = true := form_D k1 (fromB_iff.2 ⟨by omega, by omega⟩)
  have d1 := doDrop_there (num := num) hh hs hi ht hk
  have hfs : findI (s.tens.set i ⟨t.name, t.epoch, t.next, del t.keys (spotK t.keys num)⟩) n = (i : Int) := by rw [findI_set hi (by rw [ht])]; exact hfi
  have hlen : (del t.keys (spotK t.keys num)).length + 1 = t.keys.length := by unfold del; rw [List.length_append, List.length_take, List.length_drop]; omega
  refine ⟨_, run_one f1 d1, (do_rose hr f1 d1).1, i, by rw [List.length_set]; exact hi, hfs, (fun h => absurd h (by decide)), fun _ => ⟨?_, ?_⟩, (fun h => by cases h), (fun h => by cases h), fun _ => rfl, fun h => ?_, (fun h => by cases h)⟩
  · have hno := keyRes_no (s := ⟨s.tens.set i ⟨t.name, t.epoch, t.next, del t.keys (spotK t.keys num)⟩, s.serial⟩) (n := n) (num := num) (i := i) (by dsimp only; rw [List.length_set]; exact hi) hfs (by
      dsimp only
      rw [List.getElem_set_self]
      refine keyI_none (fun m hm => ?_)
      have := del_no hkl k6 _ (List.getElem_mem hm)
      rw [hkn] at this
      exact this)
    rw [hno]
  · dsimp only; rw [List.getElem_set_self]; exact hlen
  · dsimp only; rw [List.length_set]
theorem plan_four {s : S} {n key : ByteArray} {num : Int} {l : List E} (hr : right s = true) (h : planR 4 s n key num = (l, 0)) : ∃ t, run s l = .ok t ∧ right t = true ∧ Done 4 s t n key num := by
  unfold planR at h
  rw [if_neg (by rw [hr]; decide), if_neg (by decide)] at h
  by_cases hf : findI s.tens n < 0
  · rw [if_pos hf] at h; cases h
  rw [if_neg hf, if_neg (by decide), if_neg (by decide), if_pos rfl] at h
  obtain ⟨hh, hi, hfi, hta, hnm⟩ := find_there hr hf
  obtain ⟨k1, k2, k3, k4, k5, k6⟩ := ten_parts ((right_parts hr).2.2.1 _ (List.getElem_mem hi))
  by_cases hc : (tenAt s n).epoch = 1099511627776
  · rw [if_pos hc] at h; cases h
  rw [if_neg hc] at h
  cases h
  unfold Done
  rw [hta] at hc ⊢
  generalize hs : spotT s.tens n = i at *
  generalize ht : s.tens[i] = t at *
  rw [hnm] at k1
  have k2' := fromB_iff.1 k2
  have f1 : form (evT n t.next (t.epoch + 1)) = true := form_T k1 (fromB_iff.2 ⟨by omega, by omega⟩) k3
  have d1 := doTen_there (num := t.next) (epoch := t.epoch + 1) hh hs hi ht (by omega) (Int.le_refl _)
  have hfs : findI (s.tens.set i ⟨t.name, t.epoch + 1, t.next, t.keys⟩) n = (i : Int) := by rw [findI_set hi (by rw [ht])]; exact hfi
  refine ⟨_, run_one f1 d1, (do_rose hr f1 d1).1, i, by rw [List.length_set]; exact hi, hfs, (fun h => absurd h (by decide)), (fun h => by cases h), fun _ => ⟨?_, ?_⟩, (fun h => by cases h), fun _ => rfl, fun h => ?_, (fun h => by cases h)⟩
  · dsimp only; rw [List.getElem_set_self]
  · dsimp only; rw [List.getElem_set_self]
  · dsimp only; rw [List.length_set]
theorem plan_five {s : S} {n key : ByteArray} {num : Int} {l : List E} (hr : right s = true) (h : planR 5 s n key num = (l, 0)) : ∃ t, run s l = .ok t ∧ right t = true ∧ Done 5 s t n key num := by
  unfold planR at h
  rw [if_neg (by rw [hr]; decide), if_neg (by decide)] at h
  by_cases hf : findI s.tens n < 0
  · rw [if_pos hf] at h; cases h
  rw [if_neg hf, if_neg (by decide), if_neg (by decide), if_neg (by decide)] at h
  obtain ⟨hh, hi, hfi, hta, hnm⟩ := find_there hr hf
  by_cases hc : (tenAt s n).keys.length = 0
  · rw [if_pos hc] at h; cases h
  rw [if_neg hc] at h
  by_cases hs : s.serial = 1099511627776
  · rw [if_pos hs] at h; cases h
  rw [if_neg hs] at h
  cases h
  have hser := fromB_iff.1 (right_parts hr).2.1
  have f1 : form (evS (s.serial + 1)) = true := form_S (fromB_iff.2 ⟨by omega, by omega⟩)
  have d1 : doE s (evS (s.serial + 1)) = .ok ⟨s.tens, s.serial + 1⟩ := by
    show (if s.serial + 1 < s.serial then R.bad 7 else R.ok ⟨s.tens, s.serial + 1⟩) = _
    rw [if_neg (by omega)]
  exact ⟨_, run_one f1 d1, (do_rose hr f1 d1).1, _, hi, hfi, (fun h => absurd h (by decide)), (fun h => by cases h), (fun h => by cases h), (fun _ => rfl), (fun h => absurd h (by decide)), (fun _ => rfl), (fun h => by cases h)⟩
theorem plan_done {op : Nat} {s : S} {n key : ByteArray} {num : Int} {l : List E} (ho : 1 ≤ op) (ho5 : op ≤ 5) (hr : right s = true) (h : planR op s n key num = (l, 0)) : ∃ t, all s l = .ok t ∧ right t = true ∧ Done op s t n key num := by
  have e : ∀ t, run s l = .ok t → all s l = .ok t := fun t ht => by unfold all; rw [if_neg (by rw [hr]; decide)]; exact ht
  obtain ⟨t, h1, h2⟩ : ∃ t, run s l = .ok t ∧ right t = true ∧ Done op s t n key num := by
    match op, ho, ho5 with
    | 1, _, _ => exact plan_one hr h
    | 2, _, _ => exact plan_two hr h
    | 3, _, _ => exact plan_three hr h
    | 4, _, _ => exact plan_four hr h
    | 5, _, _ => exact plan_five hr h
  exact ⟨t, e t h1, h2⟩
end Pl
end Go.Proofs.Ytgcgilcalmefgaa
