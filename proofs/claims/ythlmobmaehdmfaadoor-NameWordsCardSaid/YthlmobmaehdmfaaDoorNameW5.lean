/- Walks for chapter 9 (names): slices of texts; Words, Join. -/
import Derived.Test.YthlmobmaehdmfaaDoorNameW4
import Derived.Test.YthlmobmaehdmfaaDoorShelf
import Derived.Deep.QuietTactic
import Derived.BigQuiet
import Derived.KernelRfl
import Derived.WideShapes
namespace Go.Proofs.YthlmobmaehdmfaaDoor.Nm
open Go Go.RowKit Go.WideShapes
set_option maxRecDepth 100000
set_option linter.unusedSimpArgs false
set_option linter.unusedVariables false
set_option maxHeartbeats 600000
/-- the slice at A holds these texts -/
def Txts (w : World) (A : Option Addr) (xs : List ByteArray) : Prop :=
  0 < xs.length → ∃ b o, A = some ⟨b, o, none⟩ ∧ b < w.heap.size ∧ ∀ (j : Nat) x, xs[j]? = some x → w.cell? ⟨b, o + j, none⟩ = some (.string x)
theorem Txts.below {w w' : World} {A : Option Addr} {xs : List ByteArray} (h : Txts w A xs) (hb : Below w.heap.size w w') : Txts w' A xs := fun hn => by
  obtain ⟨b, o, e, hlt, hc⟩ := h hn
  exact ⟨b, o, e, Nat.lt_of_lt_of_le hlt hb.size, fun j x hj => (hb.cell (p := ⟨b, o + j, none⟩) hlt).trans (hc j x hj)⟩
theorem Txts.at_ {w : World} {A : Option Addr} {xs : List ByteArray} (h : Txts w A xs) {k : Nat} (hk : k < xs.length) :
    ∃ b o, A = some ⟨b, o, none⟩ ∧ b < w.heap.size ∧ w.cell? ⟨b, o + k, none⟩ = some (.string (xs[k]'hk)) := by
  obtain ⟨b, o, e, hlt, hc⟩ := h (by omega)
  exact ⟨b, o, e, hlt, hc k _ (List.getElem?_eq_getElem hk)⟩
def pieces (s : ByteArray) : List ByteArray := Lib.splitB ⟨#[32]⟩ 0 (Lib.countB s ⟨#[32]⟩) s
theorem splitB_small (sep : ByteArray) : ∀ (k : Nat) (s x : ByteArray), x ∈ Lib.splitB sep 0 k s → x.size ≤ s.size
  | 0, s, x, h => by simp [Lib.splitB] at h; subst h; exact Nat.le_refl _
  | k + 1, s, x, h => by
    unfold Lib.splitB at h
    split at h
    · simp at h; subst h; exact Nat.le_refl _
    · rcases List.mem_cons.1 h with h | h
      · subst h; simp [ByteArray.size_extract]; omega
      · have := splitB_small sep k _ x h
        simp [ByteArray.size_extract] at this; omega
theorem pieces_length (s : ByteArray) : (pieces s).length = Lib.countB s ⟨#[32]⟩ + 1 := Lib.splitB_all _ (by decide) 0 _ s rfl
theorem pieces_small (s x : ByteArray) (h : x ∈ pieces s) : x.size ≤ s.size := splitB_small _ _ s x h
/-- what Words tells: the pieces, if each is a word -/
def RetWords (ps : List ByteArray) (w : World) (e : Ending) (w' : World) : Prop :=
  Below w.heap.size w w' ∧
  ((ps.all fun x => wordB x.data.toList) = true → ∃ A, e = .returned (.tuple #[.slice A ps.length ps.length, .bool true]) ∧ Txts w' A ps) ∧
  ((ps.all fun x => wordB x.data.toList) = false → e = .returned (.tuple #[.slice none 0 0, .bool false]))
theorem all_no {p : ByteArray → Bool} {l : List ByteArray} {k : Nat} (hk : k < l.length) (h : p (l[k]'hk) = false) : l.all p = false := by
  rw [List.all_eq_false]; exact ⟨_, List.getElem_mem hk, by simp [h]⟩
theorem all_yes {p : ByteArray → Bool} {l : List ByteArray} (h : ∀ i (hi : i < l.length), p (l[i]'hi) = true) : l.all p = true := by
  rw [List.all_eq_true]
  intro x hx
  obtain ⟨i, hi, rfl⟩ := List.getElem_of_mem hx
  exact h i hi
theorem words_any (s : ByteArray) (m : Int) (w : World) (hs : s.size < 4294967281) (hm : w.cell? ⟨0, 0, none⟩ = some (.int .i64 m)) :
    Calls Tryd.prog 14 #[.string s] w (RetWords (pieces s) w) := by
  have hlen := pieces_length s
  have hsm := pieces_small s
  have hcs := Lib.countB_le ⟨#[32]⟩ (by decide) s.size s (Nat.le_refl _)
  obtain ⟨w1, hw1⟩ : ∃ w1, w1 = w.alloc (.cells (((pieces s).map Value.string).toArray) 9) := ⟨_, rfl⟩
  have hb1 : Below w.heap.size w w1 := by rw [hw1]; exact (Below.refl _ _).alloc (Nat.le_refl _) _
  have hz1 : w1.heap.size = w.heap.size + 1 := by rw [hw1]; simp
  have ht : Txts w1 (some ⟨w.heap.size, 0, none⟩) (pieces s) := fun _ => ⟨_, 0, rfl, by omega, fun j x hj => by
    rw [hw1]; simp [hj]⟩
  have hcall : Calls Tryd.prog 22 #[.string s, .string ⟨#[32]⟩] w fun e w' => e = .returned (.slice (some ⟨w.heap.size, 0, none⟩) (pieces s).length (pieces s).length) ∧ w1 = w' :=
    (Tryd.strings_Split s ⟨#[32]⟩ m w hs hm (by decide)).mono fun e w' ⟨he, hw⟩ => ⟨by rw [he, hlen], by rw [hw1, hw]; rfl⟩
  generalize pieces s = ps at *
  have HC := hide hcall
  have HL := hid_mk hlen
  have hln : ps.length ≤ 4294967281 := by omega
  have HT := hid_mk ht
  have HS := hid_mk hsm
  have HB := hid_mk hb1
  have HZ := hid_mk hz1
  clear hcall hlen ht hsm hcs hw1 hb1 hz1 hm
  go_enter Tryd.func14, Tryd.ntmps14
  go_wp2_with (go_at_call 22; refine (unhide HC).mono ?_; rintro e w' ⟨rfl, rfl⟩)
  go_loopw [6, 11] (fun _ v wr => ∃ k : Nat, k ≤ ps.length ∧ v = .int .i64 k ∧ (∀ i (h : i < ps.length), i < k → wordB (ps[i].data.toList) = true) ∧ Below w1.heap.size w1 wr) (fun _ v _ => ps.length - (intOf v).toNat)
  case atStart => exact ⟨0, Nat.zero_le _, rfl, fun i _ h => absurd h (by omega), Below.refl _ _⟩
  case round =>
    obtain ⟨k, hk, rfl, hp, hb⟩ := hrel
    have HP := hid_mk hp
    clear hp
    by_cases hlt : k < ps.length
    · obtain ⟨b, o, he, hbl, hc⟩ := (HT.out.below hb).at_ hlt
      simp only [Option.some.injEq, Addr.mk.injEq, and_true] at he
      obtain ⟨rfl, rfl⟩ := he
      have hmem := HS.out _ (List.getElem_mem hlt)
      obtain ⟨x, hx⟩ : ∃ x, x = ps[k] := ⟨_, rfl⟩
      rw [← hx] at hc hmem
      have HX := hid_mk hx
      clear hx
      simp only [Nat.zero_add] at hc
      have hxm : x.size ≤ maxLen := by unfold maxLen; omega
      have HB2 := hid_mk hb
      clear hb
      by_cases hg : wordB x.data.toList = true
      · go_wp2_with (go_at_call 10; refine (word_any _ _ hxm).mono ?_; rintro e w' ⟨rfl, hb'⟩)
        have hb3 := HB2.out.trans (hb'.mono HB2.out.size)
        clear hb'
        go_roundw
        case rel => exact ⟨k + 1, by omega, by go_num, fun i h hi => by
          by_cases e : i = k
          · subst e; rw [HX.out] at hg; exact hg
          · exact HP.out i h (by omega), hb3⟩
        case measure => simp [intOf]; omega
      · have hg : wordB x.data.toList = false := by simpa using hg
        go_wp2_with (go_at_call 10; refine (word_any _ _ hxm).mono ?_; rintro e w' ⟨rfl, hb'⟩)
        go_ret2
        have hall := all_no (p := fun x => wordB x.data.toList) hlt (by rw [HX.out] at hg; exact hg)
        exact ⟨HB.out.trans ((HB2.out.trans (hb'.mono HB2.out.size)).mono (by have := HZ.out; omega)), ⟨fun h => absurd (hall.symm.trans h) (by simp), fun _ => rfl⟩⟩
    · go_wp2
      go_ret2
      have hall := all_yes (p := fun x => wordB x.data.toList) (l := ps) (fun i hi => HP.out i hi (by omega))
      exact ⟨HB.out.trans (hb.mono (by have := HZ.out; omega)), ⟨fun _ => ⟨_, rfl, HT.out.below hb⟩, fun h => absurd (hall.symm.trans h) (by simp)⟩⟩
/-- Join, of texts that together are not too long -/
theorem join_any (A : Option Addr) (xs : List ByteArray) (w : World) (ht : Txts w A xs) (hN : xs.length ≤ 140737488355328) (hlen : (Lib.join (xs.map (·.data.toList)) [32]).length ≤ 140737488355328) :
    Calls Tryd.prog 17 #[.slice A xs.length xs.length] w (RetG (.string ⟨(Lib.join (xs.map (·.data.toList)) [32]).toArray⟩) w) := by
  have hcall : Calls Tryd.prog 24 #[.slice A xs.length xs.length, .string ⟨#[32]⟩] w (RetG (.string ⟨(Lib.join (xs.map (·.data.toList)) [32]).toArray⟩) w) := by
    by_cases h0 : xs.length = 0
    · have hx : xs = [] := List.eq_nil_of_length_eq_zero h0
      subst hx
      exact (Tryd.strings_Join_none A 0 ⟨#[32]⟩ w).mono fun e w' ⟨he, hw⟩ => ⟨he, by subst hw; exact Below.refl _ _⟩
    · obtain ⟨b, o, rfl, hb, hc⟩ := ht (by omega)
      exact (Tryd.strings_Join b o xs.length xs ⟨#[32]⟩ w hc hb hN (Nat.le_refl _) hlen).mono fun e w' ⟨he, hw⟩ => ⟨he, hw⟩
  generalize (Lib.join (xs.map (·.data.toList)) [32]).toArray = r at *
  have HC := hide hcall
  clear hcall hlen ht
  go_enter Tryd.func17, Tryd.ntmps17
  go_wp2_with (go_at_call 24; refine (unhide HC).mono ?_; rintro e w' ⟨rfl, hb⟩)
  go_ret
  exact ⟨rfl, hb⟩
/-! ### the answers at known texts -/
theorem label_is (s : ByteArray) (b : Bool) (w : World) (hb : labelB s.data.toList = b) (hs : s.size ≤ 1000) : Calls Tryd.prog 8 #[.string s] w (RetG (.bool b) w) := by
  subst hb; exact label_any s w (by unfold maxLen; omega)
theorem word_is (s : ByteArray) (b : Bool) (w : World) (hb : wordB s.data.toList = b) (hs : s.size ≤ 1000) : Calls Tryd.prog 10 #[.string s] w (RetG (.bool b) w) := by
  subst hb; exact word_any s w (by unfold maxLen; omega)
def RetYes (n : Nat) (ps : List ByteArray) (w : World) (e : Ending) (w' : World) : Prop := ∃ A, e = .returned (.tuple #[.slice A n n, .bool true]) ∧ Txts w' A ps ∧ Below w.heap.size w w'
theorem words_yes (s : ByteArray) (m : Int) (n : Nat) (ps : List ByteArray) (w : World) (hs : s.size < 4294967281) (hp : pieces s = ps) (hn : ps.length = n) (ha : (ps.all fun x => wordB x.data.toList) = true) (hm : w.cell? ⟨0, 0, none⟩ = some (.int .i64 m)) :
    Calls Tryd.prog 14 #[.string s] w (RetYes n ps w) := by
  subst hp; subst hn
  refine (words_any s m w hs hm).mono fun e w' ⟨hb, hy, _⟩ => ?_
  obtain ⟨A, he, ht⟩ := hy ha
  exact ⟨A, he, ht, hb⟩
theorem words_no (s : ByteArray) (m : Int) (ps : List ByteArray) (w : World) (hs : s.size < 4294967281) (hp : pieces s = ps) (ha : (ps.all fun x => wordB x.data.toList) = false) (hm : w.cell? ⟨0, 0, none⟩ = some (.int .i64 m)) :
    Calls Tryd.prog 14 #[.string s] w (RetG (.tuple #[.slice none 0 0, .bool false]) w) := by
  subst hp
  exact (words_any s m w hs hm).mono fun e w' ⟨hb, _, hn⟩ => ⟨hn ha, hb⟩
theorem pieces_1 : pieces ⟨#[97, 32, 98]⟩ = [⟨#[97]⟩, ⟨#[98]⟩] := by kernel_rfl
theorem pieces_2 : pieces ⟨#[97, 32, 32, 98]⟩ = [⟨#[97]⟩, ⟨#[]⟩, ⟨#[98]⟩] := by kernel_rfl
theorem works_cut (w : World) : Calls Tryd.prog 7 #[.string ⟨#[43, 97, 95, 49, 61]⟩, .int .i64 1] w (RetG (.tuple #[.string ⟨#[97, 95, 49]⟩, .int .i64 4]) w) := by
  refine (cut_ok ⟨#[43, 97, 95, 49, 61]⟩ 1 w (by unfold maxLen; decide) (by decide)).mono fun e w' ⟨r, he, hr, hb⟩ => ⟨?_, hb⟩
  rw [he]
  have h1 : ((#[43, 97, 95, 49, 61] : Array UInt8).toList.drop 1).take (run signB true ((#[43, 97, 95, 49, 61] : Array UInt8).toList.drop 1)) = [97, 95, 49] := by kernel_rfl
  have h2 : run signB true ((#[43, 97, 95, 49, 61] : Array UInt8).toList.drop 1) = 3 := by kernel_rfl
  have hr' : r = ⟨#[97, 95, 49]⟩ := bytes_inj (hr.trans h1)
  subst hr'
  show Ending.returned (.tuple #[_, .int .i64 ((1 + run signB true ((#[43, 97, 95, 49, 61] : Array UInt8).toList.drop 1) : Nat) : Int)]) = _
  rw [h2]
  rfl
theorem works_any (m : Int) (w : World) (hm : w.cell? ⟨0, 0, none⟩ = some (.int .i64 m)) (hg : 0 < w.heap.size) : Calls Tryd.prog 6 #[] w (RetG (.bool true) w) := by
  go_enter Tryd.func6, Tryd.ntmps6
  go_wp2_with fail
  refine (words_yes _ m 2 _ _ (by decide) pieces_1 rfl (by decide) hm).mono ?_
  rintro e w1 ⟨A, rfl, ht, hb⟩
  have hm1 := (hb.cell (p := ⟨0, 0, none⟩) hg).trans hm
  have hg1 := Nat.lt_of_lt_of_le hg hb.size
  clear hm
  go_wp2_with fail
  refine (words_no _ m _ _ (by decide) pieces_2 (by decide) hm1).mono ?_
  rintro e w2 ⟨rfl, hb2⟩
  go_wp2_with fail
  refine (works_cut _).mono ?_
  rintro e w3 ⟨rfl, hb3⟩
  go_wp2_with fail
  refine (label_is _ true _ (by decide) (by decide)).mono ?_
  rintro e w4 ⟨rfl, hb4⟩
  go_wp2_with fail
  refine (word_is _ false _ (by decide) (by decide)).mono ?_
  rintro e w5 ⟨rfl, hb5⟩
  go_wp2_with fail
  refine (word_is _ true _ (by decide) (by decide)).mono ?_
  rintro e w6 ⟨rfl, hb6⟩
  have ht6 := ((((ht.below hb2).below hb3).below hb4).below hb5).below hb6
  have hb7 := ((((hb.trans (hb2.mono hb.size)).trans (hb3.mono (Nat.le_trans hb.size hb2.size))).trans (hb4.mono (Nat.le_trans hb.size (Nat.le_trans hb2.size hb3.size)))).trans (hb5.mono (Nat.le_trans hb.size (Nat.le_trans hb2.size (Nat.le_trans hb3.size hb4.size))))).trans (hb6.mono (Nat.le_trans hb.size (Nat.le_trans hb2.size (Nat.le_trans hb3.size (Nat.le_trans hb4.size hb5.size)))))
  go_wp2_with fail
  refine (join_any A [⟨#[97]⟩, ⟨#[98]⟩] _ ht6 (by decide) (by decide)).mono ?_
  rintro e w8 ⟨rfl, hb8⟩
  have hj : (⟨(Lib.join ([⟨#[97]⟩, ⟨#[98]⟩].map fun x : ByteArray => x.data.toList) [32]).toArray⟩ : ByteArray) = ⟨#[97, 32, 98]⟩ := by kernel_rfl
  rw [hj]
  go_wp2
  go_ret
  exact ⟨rfl, hb7.trans (hb8.mono hb7.size)⟩
end Go.Proofs.YthlmobmaehdmfaaDoor.Nm
