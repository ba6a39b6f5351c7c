/- Walks: the reference's Pieces (a slice of texts that grows) and Words. -/
import Derived.Test.YthlmobmaehdmfaaDoorTextsW
import Derived.Laws.AppendOwn
import Derived.OwnWalk
namespace Go.Proofs.YthlmobmaehdmfaaDoor.Nm
open Go Go.RowKit Go.WideShapes
set_option maxRecDepth 100000
set_option linter.unusedSimpArgs false
set_option linter.unusedVariables false
set_option maxHeartbeats 1000000
theorem infoStr : (Tryd.prog.info? 9).map (fun i => (i.zero, i.size, i.bytes)) = some (some (.string ⟨#[]⟩), 1, 16) := by kernel_rfl
theorem txts_of_own {w : World} {B : Nat} {v : Value} {xs : List ByteArray} (h : w.ownsRow B 9 1 v xs.length (xs.map Value.string)) :
    ∃ A c, v = .slice A xs.length c ∧ Txts w A xs ∧ xs.length ≤ c := by
  rcases h.2 with ⟨rfl, h0⟩ | ⟨g, cap, cur, rfl, _, hh, hc, _⟩
  · exact ⟨none, 0, by rw [h0], fun hn => absurd hn (by omega), by omega⟩
  · have hlt : g < w.heap.size := by
      rcases Nat.lt_or_ge g w.heap.size with h1 | h1
      · exact h1
      · rw [Array.getElem?_eq_none h1] at hh; cases hh
    refine ⟨_, cap, rfl, fun hn => ⟨g, 0, rfl, hlt, fun j x hj => ?_⟩, hc⟩
    have h2 := h.cells (g := g) rfl j (.string x) (by rw [List.getElem?_map, hj]; rfl)
    have e : (⟨g, 0, none⟩ : Addr).add j = ⟨g, 0 + j, none⟩ := by unfold Addr.add; split <;> simp_all
    rw [e] at h2
    exact h2
theorem ownsRow_base {w : World} {B : Nat} {e : TypeId} {size n : Nat} {v : Value} {xs : List Value} (h : w.ownsRow B e size v n xs) {g : Nat} (hg : v.ownBlock = some g) : B ≤ g := by
  rcases h.2 with ⟨rfl, _⟩ | ⟨g', cap, cur, rfl, hb, _⟩
  · simp [Value.ownBlock] at hg
  · simp [Value.ownBlock] at hg
    omega
/-- the pieces of l so far: those that are whole, and what stands since -/
def PiecesAt (l : List UInt8) (outs : List ByteArray) (fr i : Nat) : Prop :=
  fr ≤ i ∧ splitL l = outs.map (·.data.toList) ++ attach ((l.take i).drop fr) (splitL (l.drop i))
theorem piecesAt_cut {s : ByteArray} {outs : List ByteArray} {fr i : Nat} (h : PiecesAt s.data.toList outs fr i) (hi : i < s.size) (hc : s[i] = 32) : PiecesAt s.data.toList (outs ++ [s.extract fr i]) (i + 1) (i + 1) := by
  obtain ⟨h1, h2⟩ := h
  refine ⟨Nat.le_refl _, ?_⟩
  rw [h2]
  have hl : i < s.data.toList.length := by simpa using hi
  have e : s.data.toList.drop i = 32 :: s.data.toList.drop (i + 1) := by
    rw [List.drop_eq_getElem_cons hl]
    congr 1
  rw [e]
  have e2 : ((s.data.toList.take (i + 1)).drop (i + 1)) = [] := by simp
  rw [e2, attach_nil (splitL_ne _)]
  simp only [splitL, if_true, attach, List.append_nil]
  rw [List.map_append, List.append_assoc]
  simp only [List.map_cons, List.map_nil, List.singleton_append]
  rw [extract_list]
theorem piecesAt_next {s : ByteArray} {outs : List ByteArray} {fr i : Nat} (h : PiecesAt s.data.toList outs fr i) (hi : i < s.size) (hc : s[i] ≠ 32) : PiecesAt s.data.toList outs fr (i + 1) := by
  obtain ⟨h1, h2⟩ := h
  refine ⟨by omega, ?_⟩
  rw [h2]
  have hl : i < s.data.toList.length := by simpa using hi
  have e : s.data.toList.drop i = s[i] :: s.data.toList.drop (i + 1) := by
    rw [List.drop_eq_getElem_cons hl]
    congr 1
  rw [e]
  simp only [splitL]
  rw [if_neg hc, attach_attach _ _ _ (splitL_ne _)]
  congr 2
  rw [List.take_succ_eq_append_getElem hl, List.drop_append_of_le_length (by simp; omega)]
  congr 1
theorem piecesAt_end {s : ByteArray} {outs : List ByteArray} {fr : Nat} (h : PiecesAt s.data.toList outs fr s.size) : splitL s.data.toList = (outs ++ [s.extract fr s.size]).map (·.data.toList) := by
  obtain ⟨h1, h2⟩ := h
  rw [h2]
  have e : s.data.toList.drop s.size = [] := by simp
  rw [e]
  simp only [splitL, attach, List.append_nil, List.map_append, List.map_cons, List.map_nil]
  rw [extract_list]
def RetPieces (l : List UInt8) (w : World) (e : Ending) (w' : World) : Prop :=
  ∃ A c xs, e = .returned (.slice A xs.length c) ∧ Txts w' A xs ∧ xs.length ≤ c ∧ xs.map (·.data.toList) = splitL l ∧ Below w.heap.size w w'
theorem rpieces_any (s : ByteArray) (w : World) (hs : s.size ≤ 100000) :
    Calls Tryd.prog 23 #[.string s] w (RetPieces s.data.toList w) := by
  obtain ⟨i0, hi, hz0, hz1, hz2⟩ := info_parts infoStr
  go_enter Tryd.func23, Tryd.ntmps23
  go_wp2
  go_loopw [3, 4, 5] (fun v fr i wr => ∃ (k f : Nat) (outs : List ByteArray), i = .int .i64 k ∧ fr = .int .i64 f ∧ k ≤ s.size + 1 ∧ outs.length ≤ k ∧ wr.ownsRow w.heap.size 9 1 v outs.length (outs.map Value.string) ∧
      (k ≤ s.size → PiecesAt s.data.toList outs f k) ∧ (k = s.size + 1 → splitL s.data.toList = outs.map (·.data.toList)) ∧ Below w.heap.size w wr) (fun _ _ i _ => s.size + 1 - (intOf i).toNat)
  case atStart => exact ⟨0, 0, [], rfl, rfl, by omega, by simp, World.ownsRow_nil _ _ _ _, fun _ => ⟨Nat.le_refl _, by simp [attach_nil (splitL_ne _)]⟩, fun h => absurd h (by omega), Below.refl _ _⟩
  case round =>
    obtain ⟨k, f, outs, rfl, rfl, hk, ho, hown, hp, hq, hb⟩ := hrel
    by_cases hlt : k ≤ s.size
    · have hp := hp hlt
      have hfk := hp.1
      have HP := hid_mk hp
      clear hp hq
      by_cases hend : k = s.size
      · have hend1 : ((k : Int) == (s.size : Int)) = true := by simp [hend]
        have HE := hid_mk hend
        clear hend
        go_wp2_with (at_builtin; refine wpList_append_own _ rfl _ _ 28 rfl w.heap.size 9 i0 (.string ⟨#[]⟩) 1 16 Tryd.underlying28 hi hz0 hz1 hz2 rfl (by decide) _ _ _ rfl (hown.alloc _) ⟨wr.heap.size, 0, none⟩ 1 1 [.string (s.extract f k)] rfl rfl ?c1 ?c2 ?c3 ?c4 ?c5 ?_)
        case c1 => exact cell_one_new _ _ _
        case c2 => intro u hu; simp at hu; subst hu; rfl
        case c3 => unfold maxLen; omega
        case c4 => omega
        case c5 => have := hb.size; simp; omega
        · intro v' w1 hown' hgrow _
          have hb' := (hb.alloc hb.size (.cells #[.string (s.extract f k)] 9)).grown hgrow (by have := hb.size; simp; omega) (fun g hg => ownsRow_base hown hg)
          clear hgrow hown hb
          go_wp2
          go_roundw
          case rel => exact ⟨k + 1, k + 1, outs ++ [s.extract f k], by go_num, by go_num, by omega, by simp; omega, by simpa using hown', fun h => absurd h (by have := HE.out; omega), fun _ => by
            have := HP.out
            rw [HE.out] at this ⊢
            exact piecesAt_end this, hb'⟩
          case measure => simp [intOf]; omega
      · have hend1 : ((k : Int) == (s.size : Int)) = false := by simp; omega
        have hlt2 : k < s.size := by omega
        by_cases h32 : s[k]'(by omega) = 32
        · have h321 : (((s[k]'hlt2).toNat : Int) == 32) = true := by rw [h32]; rfl
          have HE := hid_mk h32
          clear h32
          go_wp2_with (at_builtin; refine wpList_append_own _ rfl _ _ 28 rfl w.heap.size 9 i0 (.string ⟨#[]⟩) 1 16 Tryd.underlying28 hi hz0 hz1 hz2 rfl (by decide) _ _ _ rfl (hown.alloc _) ⟨wr.heap.size, 0, none⟩ 1 1 [.string (s.extract f k)] rfl rfl ?c1 ?c2 ?c3 ?c4 ?c5 ?_)
          case c1 => exact cell_one_new _ _ _
          case c2 => intro u hu; simp at hu; subst hu; rfl
          case c3 => unfold maxLen; omega
          case c4 => omega
          case c5 => have := hb.size; simp; omega
          · intro v' w1 hown' hgrow _
            have hb' := (hb.alloc hb.size (.cells #[.string (s.extract f k)] 9)).grown hgrow (by have := hb.size; simp; omega) (fun g hg => ownsRow_base hown hg)
            clear hgrow hown hb
            go_wp2
            go_roundw
            case rel => exact ⟨k + 1, k + 1, outs ++ [s.extract f k], by go_num, by go_num, by omega, by simp; omega, by simpa using hown', fun _ => piecesAt_cut HP.out hlt2 HE.out, fun h => absurd h (by omega), hb'⟩
            case measure => simp [intOf]; omega
        · have h321 : (((s[k]'hlt2).toNat : Int) == 32) = false := by
            simp
            intro e
            exact h32 (UInt8.toNat_inj.1 (by rw [show (s[k]'hlt2).toNat = 32 by omega]; rfl))
          have HE := hid_mk h32
          clear h32
          go_wp2
          go_roundw
          case rel => exact ⟨k + 1, f, outs, by go_num, rfl, by omega, by omega, hown, fun _ => piecesAt_next HP.out hlt2 HE.out, fun h => absurd h (by omega), hb⟩
          case measure => simp [intOf]; omega
    · have HQ := hid_mk (hq (by omega))
      clear hp hq
      go_wp2
      go_ret
      obtain ⟨A, c, rfl, ht, hc⟩ := txts_of_own hown
      exact ⟨A, c, outs, rfl, ht, hc, HQ.out.symm, hb⟩
/-- what the reference's Words tells -/
def RetRWords (l : List UInt8) (w : World) (e : Ending) (w' : World) : Prop :=
  Below w.heap.size w w' ∧
  (((splitL l).all wordB) = true → ∃ A c xs, e = .returned (.tuple #[.slice A xs.length c, .bool true]) ∧ Txts w' A xs ∧ xs.length ≤ c ∧ xs.map (·.data.toList) = splitL l) ∧
  (((splitL l).all wordB) = false → e = .returned (.tuple #[.slice none 0 0, .bool false]))
theorem splitL_small : ∀ (l x : List UInt8), x ∈ splitL l → x.length ≤ l.length
  | [], x, h => by simp [splitL] at h; subst h; simp
  | c :: r, x, h => by
    unfold splitL at h
    split at h
    · rcases List.mem_cons.1 h with h | h
      · subst h; simp
      · have := splitL_small r x h; simp; omega
    · cases hs : splitL r with
      | nil => exact absurd hs (splitL_ne r)
      | cons y ys =>
        rw [hs] at h
        simp only [attach] at h
        rcases List.mem_cons.1 h with h | h
        · subst h
          have := splitL_small r y (by rw [hs]; simp)
          simp; omega
        · have := splitL_small r x (by rw [hs]; simp [h])
          simp; omega
theorem splitL_len : ∀ l : List UInt8, (splitL l).length ≤ l.length + 1
  | [] => by simp [splitL]
  | c :: r => by
    have := splitL_len r
    unfold splitL
    split
    · simp; omega
    · cases hs : splitL r with
      | nil => exact absurd hs (splitL_ne r)
      | cons y ys => rw [hs] at this; simp [attach] at this ⊢; omega
theorem rwords_any (s : ByteArray) (w : World) (hs : s.size ≤ 100000) : Calls Tryd.prog 15 #[.string s] w (RetRWords s.data.toList w) := by
  have HC := hide (rpieces_any s w hs)
  go_enter Tryd.func15, Tryd.ntmps15
  go_wp2_with fail
  refine (unhide HC).mono ?_
  rintro e w1 ⟨A, c, ps, rfl, ht, hc, hx, hb⟩
  have hall : (splitL s.data.toList).all wordB = ps.all (fun x => wordB x.data.toList) := by rw [← hx, List.all_map]; rfl
  have hsm : ∀ x ∈ ps, x.size ≤ maxLen := fun x hxm => by
    have := splitL_small s.data.toList x.data.toList (by rw [← hx]; exact List.mem_map_of_mem hxm)
    simp at this
    unfold maxLen; omega
  have hpl : ps.length ≤ 100001 := by
    have := splitL_len s.data.toList
    rw [← hx] at this
    simp at this
    omega
  have e0 : ∀ e w', RetRWords s.data.toList w e w' ↔ (Below w.heap.size w w' ∧ ((ps.all fun x => wordB x.data.toList) = true → ∃ A c xs, e = .returned (.tuple #[.slice A xs.length c, .bool true]) ∧ Txts w' A xs ∧ xs.length ≤ c ∧ xs.map (·.data.toList) = splitL s.data.toList) ∧
      ((ps.all fun x => wordB x.data.toList) = false → e = .returned (.tuple #[.slice none 0 0, .bool false]))) := fun e w' => by
    unfold RetRWords; rw [hall]
  have HT := hid_mk ht
  have HS := hid_mk hsm
  have HX := hid_mk hx
  have HE0 := hid_mk e0
  clear ht hsm hx HC hall e0
  go_wp2
  go_loop [5] (fun v => ∃ k : Nat, k ≤ ps.length ∧ v = .int .i64 k ∧ (∀ i (h : i < ps.length), i < k → wordB (ps[i].data.toList) = true)) (fun v => ps.length - (intOf v).toNat)
  case atStart => exact ⟨0, Nat.zero_le _, rfl, fun i _ h => absurd h (by omega)⟩
  case round =>
    obtain ⟨k, hk, rfl, hp⟩ := hrel
    have HP := hid_mk hp
    clear hp
    by_cases hlt : k < ps.length
    · obtain ⟨b, o, rfl, hbl, hcell⟩ := HT.out.at_ hlt
      have hxm := HS.out _ (List.getElem_mem hlt)
      obtain ⟨x, hx⟩ : ∃ x, x = ps[k] := ⟨_, rfl⟩
      rw [← hx] at hcell hxm
      have HX2 := hid_mk hx
      clear hx
      have hi : (k : Int) < (ps.length : Int) := by omega
      by_cases hg : wordB x.data.toList = true
      · go_wp2_with (go_at_call 11; refine (rword_any _ _ hxm).mono ?_; rintro e w' ⟨rfl, rfl⟩)
        go_round
        case rel => exact ⟨k + 1, by omega, by go_num, fun i h hi => by
          by_cases e : i = k
          · subst e; rw [HX2.out] at hg; exact hg
          · exact HP.out i h (by omega)⟩
        case measure => simp [intOf]; omega
      · have hg : wordB x.data.toList = false := by simpa using hg
        go_wp2_with (go_at_call 11; refine (rword_any _ _ hxm).mono ?_; rintro e w' ⟨rfl, rfl⟩)
        go_ret2
        have hall := all_no (p := fun x => wordB x.data.toList) hlt (by rw [HX2.out] at hg; exact hg)
        exact (HE0.out _ _).2 ⟨hb, ⟨fun h => absurd (hall.symm.trans h) (by simp), fun _ => rfl⟩⟩
    · go_wp2
      go_ret2
      have hall := all_yes (p := fun x => wordB x.data.toList) (l := ps) (fun i hi => HP.out i hi (by omega))
      exact (HE0.out _ _).2 ⟨hb, ⟨fun _ => ⟨_, _, _, rfl, HT.out, hc, HX.out⟩, fun h => absurd (hall.symm.trans h) (by simp)⟩⟩
end Go.Proofs.YthlmobmaehdmfaaDoor.Nm
