/- The law NameWords, second part: short texts. -/
import Derived.Test.YthlmobmaehdmfaaDoorTextsW3
namespace Go.Proofs.YthlmobmaehdmfaaDoor.Nm
open Go Go.RowKit Go.WideShapes
set_option maxRecDepth 100000
set_option linter.unusedSimpArgs false
set_option linter.unusedVariables false
set_option maxHeartbeats 4000000
theorem nwords_small (s : ByteArray) (A : Option Addr) (xs : List ByteArray) (c : Nat) (w : World) (hw : MC w) (ht : Txts w A xs) (hc : xs.length ≤ c) (hn : xs.length ≤ maxLen) (hsz : ∀ x ∈ xs, x.size ≤ maxLen)
    (h1 : s.size ≤ 400) (h2 : shortB xs = true) : Calls Tryd.prog 4 #[.string s, .slice A xs.length c] w (RetG (.bool true) w) := by
  have h3 : xs.length ≤ 20 ∧ total xs ≤ 400 := by simpa [shortB] using h2
  have hjl : ∀ k, (joinTo (xs.map (·.data.toList)) k).length ≤ 100000 := fun k => by
    have e1 := join_total ((xs.map (·.data.toList)).take k)
    have e2 : (((xs.map (·.data.toList)).take k).map List.length).sum ≤ 400 := by
      have : ((xs.map (·.data.toList)).take k).map List.length = (xs.take k).map (·.size) := by
        rw [← List.map_take, List.map_map]
        exact List.map_congr_left (fun x _ => by simp)
      rw [this]
      have := total_le xs k
      unfold total at this h3
      omega
    have e3 : ((xs.map (·.data.toList)).take k).length ≤ 20 := by simp; omega
    unfold joinTo
    omega
  obtain ⟨r, hr⟩ : ∃ r : ByteArray, r = ⟨(Lib.join (xs.map (·.data.toList)) [32]).toArray⟩ := ⟨_, rfl⟩
  have hrl : r.data.toList = Lib.join (xs.map (·.data.toList)) [32] := by rw [hr]
  have hrs : r.size ≤ 100000 := by
    have e := hjl xs.length
    unfold joinTo at e
    rw [List.take_of_length_le (by simp)] at e
    rw [← hrl] at e
    simpa using e
  have hall : (0 < xs.length ∧ (xs.all fun x => wordB x.data.toList) = true) → (splitL r.data.toList).all wordB = true ∧ wordsOf r = xs := fun ⟨g0, g1⟩ => by
    have e := words_back g0 g1
    have e2 : (splitL r.data.toList).all wordB = true := by rw [hrl, e, ← all_map xs _ rfl]; exact g1
    refine ⟨e2, ?_⟩
    unfold wordsOf
    rw [if_pos e2]
    exact map_inj (by rw [pieces_map, hrl, e])
  -- the contracts, behind names
  have HS := hide (short_any A xs c w ht hn hsz)
  rw [h2] at HS
  have HW1 := hide (fun (w : World) (h : MC w) => words_mc s w (by omega) h)
  have HW2 := hide (fun (w : World) => rwords_mc s w (by omega))
  have HW3 := hide (fun (w : World) (h : MC w) => words_mc r w (by omega) h)
  have HJ := hide (fun (w : World) (h : Txts w A xs) => by
    have := join_cap A xs c w h hc (by omega) (by rw [← hrl]; simp; omega)
    rw [← hr] at this
    exact this)
  have HR := hide (fun (w : World) (h : Txts w A xs) => by
    have := rjoin_any A xs c w h hn hjl
    rw [← hr] at this
    exact this)
  have hQ : (splitL s.data.toList).all wordB = true → Lib.join ((wordsOf s).map (·.data.toList)) [32] = s.data.toList := fun e => by
    unfold wordsOf
    rw [if_pos e, pieces_map, join_splitL]
  have hQl : (wordsOf s).length ≤ 401 := by
    unfold wordsOf
    split
    · have := splitL_len s.data.toList
      rw [← pieces_map] at this
      simp at this
      omega
    · simp
  have hRl : (wordsOf r).length ≤ 100001 := by
    unfold wordsOf
    split
    · have := splitL_len r.data.toList
      rw [← pieces_map] at this
      simp at this
      omega
    · simp
  generalize (splitL s.data.toList).all wordB = isb at *
  generalize wordsOf s = Q at *
  generalize (splitL r.data.toList).all wordB = agb at *
  generalize wordsOf r = R at *
  have HQ := hid_mk hQ
  have HALL := hid_mk hall
  have HT := hid_mk ht
  have HSZ := hid_mk hsz
  have HMC := hid_mk hw
  have HQl := hid_mk hQl
  have HRl := hid_mk hRl
  have HXl := hid_mk h3.1
  have HXn := hid_mk hn
  have d1 : decide (400 < (s.size : Int)) = false := by simp; omega
  clear h2 h3 hjl hr hrl hrs hall hQ hQl hRl ht hsz hw hn hc
  cases isb
  all_goals
    go_enter Tryd.func4, Tryd.ntmps4
    go_wp2_with fail
    refine (unhide HS).mono ?_
    rintro e w1 ⟨rfl, rfl⟩
    go_wp2_with fail
    refine (unhide HW1 _ HMC.out).mono ?_
    rintro e w2 ⟨A1, c1, rfl, ht1, hc1, hb1⟩
    go_wp2_with fail
    refine (unhide HW2 _).mono ?_
    rintro e w3 ⟨A2, c2, rfl, ht2, hc2, hb2⟩
    go_wp2_with fail
    refine (sameTexts_any A1 A2 Q Q c1 c2 _ (ht1.below hb2) ht2 (by have := HQl.out; unfold maxLen; omega) (by have := HQl.out; unfold maxLen; omega)).mono ?_
    rintro e w4 ⟨rfl, n4, rfl⟩
    rw [show decide (Q = Q) = true by simp]
    have hb4 := below_drewN (bstep hb1 hb2) n4
    go_wp2_with fail
    refine (unhide HJ _ (HT.out.below hb4)).mono ?_
    rintro e w5 ⟨rfl, hb5⟩
    have hb6 := bstep hb4 hb5
    go_wp2_with fail
    refine (unhide HR _ (HT.out.below hb6)).mono ?_
    rintro e w6 ⟨rfl, rfl⟩
    go_wp2_with fail
  rotate_left
  have hj := join_cap A1 Q c1 w5 ((ht1.below hb2).below (below_drewN (Below.refl _ _) n4) |>.below hb5) hc1 (by have := HQl.out; omega) (by rw [HQ.out (by simp)]; simp; omega)
  rw [HQ.out (by simp)] at hj
  refine hj.mono ?_
  rintro e w9 ⟨rfl, hb9'⟩
  have hb6 := bstep hb6 hb9'
  clear hj hb9'
  go_wp2_with fail
  all_goals
    clear hb5 hb4 ht1 ht2 hb1 hb2 hc1 hc2
    have HB6 := hid_mk hb6
    have hxn : xs.length ≤ 20 := HXl.out
    clear hb6
    go_loop [9, 10] (fun a v => ∃ k : Nat, k ≤ xs.length ∧ v = .int .i64 k ∧ a = .bool (decide (0 < xs.length) && (xs.take k).all fun x => wordB x.data.toList)) (fun _ v => xs.length - (intOf v).toNat)
    case atStart => exact ⟨0, Nat.zero_le _, rfl, by simp⟩
    case round =>
      obtain ⟨k, hk, rfl, rfl⟩ := hrel
      by_cases hlt : k < xs.length
      · have hpos : decide (0 < xs.length) = true := by simp; omega
        obtain ⟨b, o, rfl, hbl, hcell⟩ := (HT.out.below HB6.out).at_ hlt
        have hm := HSZ.out _ (List.getElem_mem hlt)
        have hi : (k : Int) < (xs.length : Int) := by omega
        have hsucc : ((xs.take (k + 1)).all fun x => wordB x.data.toList) = (((xs.take k).all fun x => wordB x.data.toList) && wordB (xs[k].data.toList)) := by
          rw [List.take_succ_eq_append_getElem hlt, List.all_append]; simp
        obtain ⟨x, hx⟩ : ∃ x, x = xs[k] := ⟨_, rfl⟩
        rw [← hx] at hcell hm hsucc
        have HX := hid_mk hsucc
        have HP := hid_mk hpos
        clear hx hsucc
        rw [hpos]
        clear hpos
        generalize ((xs.take k).all fun x => wordB x.data.toList) = bk at *
        cases bk
        · go_wp2_with (go_at_call 11; refine (rword_any _ _ hm).mono ?_; rintro e w' ⟨rfl, rfl⟩)
          go_round
          case rel => exact ⟨k + 1, by omega, by go_num, by rw [HX.out]; first | rfl | (rw [HP.out]; rfl)⟩
          case measure => simp [intOf]; omega
        · go_wp2_with (go_at_call 11; refine (rword_any _ _ hm).mono ?_; rintro e w' ⟨rfl, rfl⟩)
          go_round
          case rel => exact ⟨k + 1, by omega, by go_num, by rw [HX.out]; first | rfl | (rw [HP.out]; rfl)⟩
          case measure => simp [intOf]; omega
      · have hall : (decide (0 < xs.length) && ((xs.take k).all fun x => wordB x.data.toList)) = (decide (0 < xs.length) && xs.all fun x => wordB x.data.toList) := by
          rw [List.take_of_length_le (by omega)]
        rw [hall]
        have hA : (decide (0 < xs.length) && xs.all fun x => wordB x.data.toList) = true → agb = true ∧ R = xs := fun h => HALL.out (by simpa using h)
        clear hall
        generalize (decide (0 < xs.length) && xs.all fun x => wordB x.data.toList) = ab at *
        have HA := hid_mk hA
        clear hA
        go_wp2_with fail
        refine (unhide HJ _ (HT.out.below HB6.out)).mono ?_
        rintro e wa ⟨rfl, hba⟩
        have hbb := bstep HB6.out hba
        go_wp2_with fail
        refine (unhide HW3 _ (HMC.out.below hbb)).mono ?_
        rintro e wb ⟨A3, c3, rfl, ht3, hc3, hb3⟩
        have hbc := bstep hbb hb3
        cases ab
        · go_wp2_with fail
          refine (works_mc _ (HMC.out.below hbc)).mono ?_
          rintro e wd ⟨rfl, hbd⟩
          go_wp2
          go_ret
          exact ⟨rfl, bstep hbc hbd⟩
        · obtain ⟨rfl, rfl⟩ := HA.out (by simp)
          go_wp2_with fail
          refine (sameTexts_any A3 A R R c3 c _ ht3 (HT.out.below hbc) HXn.out HXn.out).mono ?_
          rintro e we ⟨rfl, n9, rfl⟩
          rw [show decide (R = R) = true by simp]
          go_wp2_with fail
          refine (works_mc _ ((HMC.out.below hbc).drewN n9)).mono ?_
          rintro e wd ⟨rfl, hbd⟩
          go_wp2
          go_ret
          exact ⟨rfl, bstep (below_drewN hbc n9) hbd⟩
theorem nwords_any (s : ByteArray) (A : Option Addr) (xs : List ByteArray) (c : Nat) (w : World) (hw : MC w) (ht : Txts w A xs) (hc : xs.length ≤ c) (hn : xs.length ≤ maxLen) (hsz : ∀ x ∈ xs, x.size ≤ maxLen) (hs : s.size ≤ maxLen) :
    Calls Tryd.prog 4 #[.string s, .slice A xs.length c] w (RetG (.bool true) w) := by
  by_cases h : 400 < s.size ∨ shortB xs = false
  · exact nwords_great s A xs c w hw ht hn hsz hs h
  · simp only [not_or, Bool.not_eq_false] at h
    exact nwords_small s A xs c w hw ht hc hn hsz (by omega) h.2
theorem nwords_sh (s : ByteArray) (A : Option Addr) (xs : List ByteArray) (c : Nat) (W : World) (hsh : W.ShapedOpen Tryd.prog) (ht : Txts W A xs) (hc : xs.length ≤ c) (hn : xs.length ≤ maxLen) (hsz : ∀ x ∈ xs, x.size ≤ maxLen) (hs : s.size ≤ maxLen) :
    Calls Tryd.prog 4 #[.string s, .slice A xs.length c] W (RetG (.bool true) W) := nwords_any s A xs c W (maxlen_cell W hsh) ht hc hn hsz hs
end Go.Proofs.YthlmobmaehdmfaaDoor.Nm
