/- Texts that the proof leans on. -/
import Derived.Lib.LaidTab
import Derived.Test.YtagppjldegblhaaGreatDoorK224
import Derived.Test.YtagppjldegblhaaGreatDoorRows
import Derived.Lib.LaidU8
set_option linter.unusedVariables false
set_option linter.unusedSimpArgs false
set_option maxRecDepth 100000
set_option maxHeartbeats 4000000
namespace Go.Proofs.YtagppjldegblhaaGreatDoor
open Go Go.RowKit
open Ab Sh
namespace Gn
def strS (R : RF) (s : ByteArray) : V := fS s
def strsS (R : RF) (l : List ByteArray) : V := .t (.slc (R _ cS l))
theorem maxlen_at {G : Nat → Prop} {w : World} (h : Tab G w) : ∃ m, w.cell? ⟨2, 0, none⟩ = some (.int .i64 m) := by
 obtain ⟨v, h1, m, rfl⟩ := (h.2.1 (2, true) (by simp [opn])).2
 exact ⟨m, h1⟩
theorem form_at {G : Nat → Prop} {w : World} (h : Tab G w) : ∃ v, w.cell? ⟨3, 0, none⟩ = some v ∧ (v = .nilIface ∨ ∃ t u, v = .iface t u) := (h.2.1 (3, false) (by simp [opn])).2
theorem range_at {G : Nat → Prop} {w : World} (h : Tab G w) : ∃ v, w.cell? ⟨4, 0, none⟩ = some v ∧ (v = .nilIface ∨ ∃ t u, v = .iface t u) := (h.2.1 (4, false) (by simp [opn])).2
theorem pow10_at {G : Nat → Prop} {w : World} (h : Tab G w) : Lib.TabIs Tryz.prog w "internal/strconv.uint64pow10" .u64 Lib.pow10Tab := by
 obtain ⟨t, fr, e⟩ := (h.2.2 (5, Lib.pow10Tab.map fun z => .int .u64 z) (by simp [whl])).2
 unfold Lib.TabIs World.var?
 rw [show Tryz.prog.globalNamed "internal/strconv.uint64pow10" = some 5 by kernel_rfl]
 simp only [Option.bind_some, e]
theorem strs_in {G : Nat → Prop} {w : World} {xs : List ByteArray} {u : Value} (h : TRep G w (.slc (rw _ cS xs)) u) : ∃ a b o cap, u = .slice a xs.length cap ∧ xs.length ≤ cap ∧ (xs ≠ [] → a = some ⟨b, o, none⟩ ∧ G b) ∧ ∀ (j : Nat) x, xs[j]? = some x → w.cell? ⟨b, o + j, none⟩ = some (.string x) := by
 generalize hr : rw _ cS xs = rows at h
 cases h with
 | slc _ a b o es cap f hcap hnil ha hes hc hr' =>
   subst hr
   have hl : (rw _ cS xs).length = xs.length := List.length_map ..
   rw [hl] at hcap ⊢
   refine ⟨a, b, o, cap, rfl, hcap, fun hne => ha (fun e => hne (List.eq_nil_of_length_eq_zero (by rw [← hl, e]; rfl))), fun j x hx => ?_⟩
   have hrow : (rw _ cS xs)[j]? = some [.flat (.string x)] := by unfold rw; rw [List.getElem?_map, hx]; rfl
   have h1 := hc j 0 (.flat (.string x)) (by rw [hrow]; rfl)
   have h2 := hr' j 0 (.flat (.string x)) (by rw [hrow]; rfl)
   obtain rfl : 1 = es := hes _ (List.mem_of_getElem? hrow)
   generalize f j 0 = u at h1 h2
   cases h2
   simpa using h1
theorem strs_out {G : Nat → Prop} {w : World} {b cap : Nat} {xs : List ByteArray} {cells : Array Value} {ty : TypeId} {fr : Nat × Nat} (hb : w.heap[b]? = some (.cells cells ty fr)) (hG : G b) (hcap : xs.length ≤ cap) (h : ∀ (j : Nat) x, xs[j]? = some x → cells[j]? = some (.string x)) :
 TRep G w (.slc (rw _ cS xs)) (.slice (some ⟨b, 0, none⟩) xs.length cap) := by
 have hl : (rw _ cS xs).length = xs.length := List.length_map ..
 rw [← hl]
 have key : ∀ (i j : Nat) (t : Ab.T), ((rw _ cS xs)[i]?).bind (fun r => r[j]?) = some t → j = 0 ∧ ∃ s, xs[i]? = some s ∧ t = .flat (.string s) := fun i j t ht => by
  unfold rw at ht
  rw [List.getElem?_map] at ht
  cases hx : xs[i]? with
  | none => rw [hx] at ht; cases ht
  | some s =>
    rw [hx] at ht
    simp only [Option.map_some, Option.bind_some, cS] at ht
    cases j with
    | zero => simp at ht; exact ⟨rfl, s, rfl, ht.symm⟩
    | succ j => simp at ht
 refine .slc _ _ b 0 1 cap (fun i j => (cells[i]?).getD undef) (by rw [hl]; exact hcap) (fun e => by cases e) (fun _ => ⟨rfl, hG⟩) (fun r hr => ?_) (fun i j t ht => ?_) (fun i j t ht => ?_)
 · unfold rw at hr
   obtain ⟨x, -, rfl⟩ := List.mem_map.1 hr
   rfl
 · obtain ⟨rfl, s, hs, rfl⟩ := key i j t ht
   have := h i s hs
   simp only [World.cell?, hb, this]
   simp [this]
 · obtain ⟨rfl, s, hs, rfl⟩ := key i j t ht
   rw [h i s hs]
   exact .flat _ rfl
theorem vfl {cx : Cx} {w : World} {v u : Value} (h : VRep cx w (.t (.flat v)) u) : u = v := by
 cases h with | t x v h => cases h; rfl
theorem below_grown (w : World) (k : Nat) (os : Array Obj) : Below w.heap.size w (Sort.grow (w.drewN k) os) := ⟨rfl, rfl, rfl, by show w.heap.size ≤ (w.heap ++ os).size; simp, fun i hi => by show (w.heap ++ os)[i]? = _; rw [Array.getElem?_append_left hi]⟩
theorem below_bytes (w : World) (e : TypeId) (s : ByteArray) : Below w.heap.size w (Lib.bytesWorld w e s) := by
 unfold Lib.bytesWorld World.freeze
 rw [if_neg (by decide)]
 refine ⟨rfl, rfl, rfl, by show w.heap.size ≤ ((w.heap.push _).modify w.heap.size _).size; simp, fun i hi => ?_⟩
 show (((w.heap.push _).modify w.heap.size _)[i]?) = _
 rw [Array.getElem?_modify, if_neg (by omega), Array.getElem?_push, if_neg (by omega)]
def strconv_Itoa_g (n : Int) : Option ByteArray := if -9223372036854775808 ≤ n ∧ n ≤ 9223372036854775807 then some ⟨(Lib.itoa n).toArray⟩ else none
theorem strconv_Itoa_w {n : Int} {r : ByteArray} (h : strconv_Itoa_g n = some r) : FunS Tryz.prog 27 [fI .i64 n] (strS rw) r := by
 unfold strconv_Itoa_g at h
 split at h
 case isFalse => cases h
 rename_i hc
 cases h
 exact fun_elder (Tryz.call27) rfl rfl fun G w hT hG => (Tryz.strconv_Itoa n hc.1 hc.2 w (pow10_at hT)).mono fun e w' ⟨h1, k, os, h2⟩ => ⟨h1, by subst h2; exact below_grown w k os⟩
def strconv_Atoi_g (s : ByteArray) : Option Int := if s.size ≤ 1000000000 then some (match Lib.atoiAll s.data.toList with | .ok v => v | .range => Lib.atoiSat s.data.toList | _ => 0) else none
def strconv_Atoi_s (R : RF) (n : Int) : V := .tup [fI .i64 n, .junk]
theorem atoi_out {G : Nat → Prop} {w : World} {n : Int} {u : Value} : VRep (Cx.none G) w (strconv_Atoi_s rw n) (.tuple #[.int .i64 n, u]) := by
 refine .tup _ _ rfl fun i c x h1 h2 => ?_
 match i, h1, h2 with
 | 0, h1, h2 => cases h1; cases h2; exact .t _ _ (.flat _ rfl)
 | 1, h1, h2 => cases h1; cases h2; exact .junk _
theorem strconv_Atoi_w {s : ByteArray} {r : Int} (h : strconv_Atoi_g s = some r) : FunS Tryz.prog 37 [fS s] (strconv_Atoi_s rw) r := by
 unfold strconv_Atoi_g at h
 split at h
 case isFalse => cases h
 rename_i hc
 cases h
 refine ⟨Tryz.call37, fun G w cargs hG hT hr => ?_⟩
 obtain ⟨hn, hr⟩ := hr
 match cargs, hn with
 | ⟨[x]⟩, _ =>
 obtain rfl := vfl (hr 0 _ x rfl rfl)
 cases ha : Lib.atoiAll s.data.toList
 · rename_i v
   refine (Tryz.strconv_Atoi_ok s (by omega) v ha w).mono ?_
   rintro e w' ⟨rfl, hw⟩
   refine ⟨_, rfl, ?_, atoi_out⟩
   rcases hw with rfl | ⟨t, rfl⟩
   · exact Below.refl _ _
   · exact below_bytes w _ t
 · obtain ⟨ev, hv, hev⟩ := form_at hT
   refine (Tryz.strconv_Atoi_syntax s (by omega) ha ev w hv hev).mono ?_
   rintro e w' ⟨N, rfl, -, -, hb⟩
   exact ⟨_, rfl, hb, atoi_out⟩
 · obtain ⟨ev, hv, hev⟩ := range_at hT
   refine (Tryz.strconv_Atoi_range s (by omega) ha ev w hv hev).mono ?_
   rintro e w' ⟨N, rfl, -, -, hb⟩
   exact ⟨_, rfl, hb, atoi_out⟩
def strings_Cut_g (s sep : ByteArray) : Option (ByteArray × ByteArray × Bool) := if s.size ≤ 1000000000 then some (⟨(Lib.cut s.data.toList sep.data.toList).1.toArray⟩, ⟨(Lib.cut s.data.toList sep.data.toList).2.1.toArray⟩, (Lib.cut s.data.toList sep.data.toList).2.2) else none
def strings_Cut_s (R : RF) (r : ByteArray × ByteArray × Bool) : V := .tup [fS r.1, fS r.2.1, fB r.2.2]
theorem strings_Cut_w {s sep : ByteArray} {r : ByteArray × ByteArray × Bool} (h : strings_Cut_g s sep = some r) : FunS Tryz.prog 35 [fS s, fS sep] (strings_Cut_s rw) r := by
 unfold strings_Cut_g at h
 split at h
 case isFalse => cases h
 rename_i hc
 cases h
 exact fun_elder (Tryz.call35) rfl rfl fun G w hT hG => by
  obtain ⟨m, hm⟩ := maxlen_at hT
  exact (Tryz.strings_Cut s sep m w (by omega) hm).mono fun e w' ⟨h1, n, h2⟩ => ⟨h1, by subst h2; exact below_drewN (Below.refl _ _) n⟩
def strings_Split_g (s sep : ByteArray) : Option (List ByteArray) := if s.size ≤ 1000000000 ∧ 1 ≤ sep.size then some (Lib.splitB sep 0 (Lib.countB s sep) s) else none
theorem strings_Split_w {s sep : ByteArray} {r : List ByteArray} (h : strings_Split_g s sep = some r) : FunS Tryz.prog 62 [fS s, fS sep] (strsS rw) r := by
 unfold strings_Split_g at h
 split at h
 case isFalse => cases h
 rename_i hc
 cases h
 refine ⟨Tryz.call62, fun G w cargs hG hT hr => ?_⟩
 obtain ⟨hn, hr⟩ := hr
 match cargs, hn with
 | ⟨[x, y]⟩, _ =>
 obtain rfl := vfl (hr 0 _ x rfl rfl)
 obtain rfl := vfl (hr 1 _ y rfl rfl)
 obtain ⟨m, hm⟩ := maxlen_at hT
 refine (Tryz.strings_Split s sep m w (by omega) hm hc.2).mono ?_
 rintro e w' ⟨rfl, rfl⟩
 have hlen : (Lib.splitB sep 0 (Lib.countB s sep) s).length = Lib.countB s sep + 1 := Lib.splitB_all sep hc.2 0 _ s rfl
 refine ⟨_, rfl, Below.alloc (Below.refl _ _) (Nat.le_refl _) _, .t _ _ ?_⟩
 rw [← hlen]
 refine strs_out (ty := 9) (fr := (0, 0)) (cells := ((Lib.splitB sep 0 (Lib.countB s sep) s).map Value.string).toArray) ?_ (.inr ⟨Nat.le_refl _, by simp⟩) (Nat.le_refl _) fun j x hx => ?_
 · show (w.heap.push _)[w.heap.size]? = _
   rw [Array.getElem?_push, if_pos rfl]
 · simp [hx]
def strings_Join_g (l : List ByteArray) (sep : ByteArray) : Option ByteArray := if l.length ≤ 1000000000 ∧ (Lib.join (l.map (·.data.toList)) sep.data.toList).length ≤ 1000000000 then some ⟨(Lib.join (l.map (·.data.toList)) sep.data.toList).toArray⟩ else none
theorem strings_Join_w {l : List ByteArray} {sep r : ByteArray} (h : strings_Join_g l sep = some r) : FunS Tryz.prog 56 [.t (.slc (rw _ cS l)), fS sep] (strS rw) r := by
 unfold strings_Join_g at h
 split at h
 case isFalse => cases h
 rename_i hc
 cases h
 refine ⟨Tryz.call56, fun G w cargs hG hT hr => ?_⟩
 obtain ⟨hn, hr⟩ := hr
 match cargs, hn with
 | ⟨[x, y]⟩, _ =>
 have hx := hr 0 _ x rfl rfl
 obtain rfl := vfl (hr 1 _ y rfl rfl)
 cases hx with | t _ _ hx =>
 obtain ⟨a, b, o, cap, rfl, hcap, ha, hcells⟩ := strs_in hx
 by_cases hl : l = []
 · subst hl
   refine (Tryz.strings_Join_none a cap sep w).mono ?_
   rintro e w' ⟨rfl, rfl⟩
   exact ⟨_, rfl, Below.refl _ _, .t _ _ (.flat _ rfl)⟩
 · obtain ⟨rfl, hb⟩ := ha hl
   refine (Tryz.strings_Join b o cap l sep w hcells (hG _ hb) (by omega) hcap (by omega)).mono ?_
   rintro e w' ⟨rfl, hw⟩
   exact ⟨_, rfl, hw, .t _ _ (.flat _ rfl)⟩
end Gn
end Go.Proofs.YtagppjldegblhaaGreatDoor
namespace Go.Proofs.YtagppjldegblhaaGreatDoor
open Go Go.RowKit Go.Lib
open Ab Sh
namespace Lw
theorem lt_of_cell {w : World} {g j : Nat} {v : Value} (h : w.cell? ⟨g, j, none⟩ = some v) : g < w.heap.size := by
 rcases Nat.lt_or_ge g w.heap.size with h4 | h4
 · exact h4
 · simp [World.cell?, Array.getElem?_eq_none h4] at h
theorem u8_of {w : World} (h3 : VarReads Tryz.prog w "unicode/utf8.first" firstData) (h4 : VarReads Tryz.prog w "unicode/utf8.acceptRanges" acceptData) : Lib.Utf8Tabs 6 7 w := by
 have c5 : Tryz.prog.cellsOf 5 = 1 := by kernel_rfl
 have c2 : Tryz.prog.cellsOf 187 = 2 := by kernel_rfl
 refine ⟨fun c hc => ?_, fun i hi => ?_⟩
 · obtain ⟨g, t, cs, fuel, p, hg, hty, hvar, hd⟩ := h3
   obtain rfl := Option.some.inj ((show Tryz.prog.globalNamed "unicode/utf8.first" = some 6 by kernel_rfl).symm.trans hg)
   obtain rfl := Option.some.inj ((show (Tryz.prog.globals[6]?).map (·.type) = some 185 by kernel_rfl).symm.trans hty)
   have hcs := cells_of_tab Tryz.underlying185 Tryz.underlying5 c5 (by kernel_rfl) hd
   have := World.var?_cell hg hvar c
   rw [this, ← Array.getElem?_toList, hcs]
   simp [firstTab, hc]
 · obtain ⟨g, t, cs, fuel, p, hg, hty, hvar, hd⟩ := h4
   obtain rfl := Option.some.inj ((show Tryz.prog.globalNamed "unicode/utf8.acceptRanges" = some 7 by kernel_rfl).symm.trans hg)
   obtain rfl := Option.some.inj ((show (Tryz.prog.globals[7]?).map (·.type) = some 188 by kernel_rfl).symm.trans hty)
   obtain ⟨fuel', d, q, hdi, he⟩ := array_elem Tryz.underlying188 hd i hi
   simp only [List.getElem?_map, List.getElem?_range hi, Option.map_some, Option.some.injEq] at hdi
   subst hdi
   rw [c2] at he
   have hcs := ints_of_struct Tryz.underlying187 (fun j f hj => by
    match j, hj with
    | 0, hj => simp at hj; subst hj; exact ⟨Tryz.underlying5, rfl, c5⟩
    | 1, hj => simp at hj; subst hj; exact ⟨Tryz.underlying5, rfl, c5⟩
    | j + 2, hj => simp at hj) (by rw [c2]; rfl) he
   have e0 := congrArg (·[0]?) hcs
   have e1 := congrArg (·[1]?) hcs
   simp only [List.getElem?_take, List.getElem?_drop] at e0 e1
   constructor
   · rw [World.var?_cell hg hvar (2 * i), ← Array.getElem?_toList]
     simpa [Nat.mul_comm] using e0
   · rw [World.var?_cell hg hvar (2 * i + 1), ← Array.getElem?_toList]
     simpa [Nat.mul_comm] using e1
theorem br_of {w : World} (h : VarReads Tryz.prog w "math/bits.deBruijn64tab" (Lib.tabData .u8 (Lib.deBruijn64tab.map Int.ofNat))) (j : Nat) (v : Value) (hv : (Lib.deBruijn64tab.map fun n => Value.int .u8 (Int.ofNat n))[j]? = some v) : w.cell? ⟨9, j, none⟩ = some v := by
 have c5 : Tryz.prog.cellsOf 5 = 1 := by kernel_rfl
 obtain ⟨g, t, cs, fuel, p, hg, hty, hvar, hd⟩ := h
 obtain rfl := Option.some.inj ((show Tryz.prog.globalNamed "math/bits.deBruijn64tab" = some 9 by kernel_rfl).symm.trans hg)
 obtain rfl := Option.some.inj ((show (Tryz.prog.globals[9]?).map (·.type) = some 190 by kernel_rfl).symm.trans hty)
 have hcs := cells_of_tab Tryz.underlying190 Tryz.underlying5 c5 (by kernel_rfl) hd
 rw [World.var?_cell hg hvar j, ← Array.getElem?_toList, hcs, List.map_map]
 exact hv
theorem iface_cells {H : Type} {enc : TypeId × Value → H} {P : Program} {w : World} {base : Nat} {sp : Nat → Bool} {held : Bool} {fuel : Nat} {t : TypeId} {ms : Array (String × TypeId)} {cs : List Value} {x : DataW H × List MemPlace}
 (ht : P.underlying t = some (.interface ms)) (h : DataW.trod enc P w base sp held fuel t cs = some x) : ∃ v, cs = [v] ∧ (v = .nilIface ∨ ∃ u p, v = .iface u p) := by
 cases fuel with
 | zero => simp [DataW.trod] at h
 | succ n =>
   unfold DataW.trod at h
   rw [ht] at h
   split at h <;> simp_all
theorem iface_at {P : Program} {w : World} {name : String} {d : DataW Unit} {g : Nat} {t : TypeId} {ms : Array (String × TypeId)} (hg0 : P.globalNamed name = some g) (hty0 : (P.globals[g]?).map (·.type) = some t) (ht : P.underlying t = some (.interface ms)) (h : VarReads P w name d) :
 ∃ v, w.cell? ⟨g, 0, none⟩ = some v ∧ (v = .nilIface ∨ ∃ u p, v = .iface u p) := by
 obtain ⟨g', t', cs, fuel, p, hg, hty, hvar, hd⟩ := h
 obtain rfl := Option.some.inj (hg0.symm.trans hg)
 obtain rfl := Option.some.inj (hty0.symm.trans hty)
 obtain ⟨v, e, hv⟩ := iface_cells ht hd
 refine ⟨v, ?_, hv⟩
 rw [World.var?_cell hg hvar 0, ← Array.getElem?_toList, e]
 rfl
theorem strs_of {P : Program} {w : World} {name : String} {g : Nat} {t e : TypeId} {n : Nat} {l : List ByteArray} (hg0 : P.globalNamed name = some g) (hty0 : (P.globals[g]?).map (·.type) = some t) (ht : P.underlying t = some (.array n e)) (he : P.underlying e = some .string) (hc : P.cellsOf e = 1) (hl : l.length = n)
 (h : VarReads P w name (.agg (l.map fun s => .lit (.string s.data.toList)))) (j : Nat) (v : Value) (hv : (l.map Value.string)[j]? = some v) : w.cell? ⟨g, j, none⟩ = some v := by
 obtain ⟨g', t', cs, fuel, p, hg, hty, hvar, hd⟩ := h
 obtain rfl := Option.some.inj (hg0.symm.trans hg)
 obtain rfl := Option.some.inj (hty0.symm.trans hty)
 rw [List.getElem?_map] at hv
 obtain ⟨s, hs, rfl⟩ := Option.map_eq_some_iff.1 hv
 have hj : j < n := by rw [← hl]; exact (List.getElem?_eq_some_iff.1 hs).1
 obtain ⟨fuel', d, q, hdi, hr⟩ := array_elem ht hd j hj
 rw [hc, Nat.mul_one] at hr
 obtain ⟨s', e1, e2, -⟩ := DataW.trod_string he hr
 rw [List.getElem?_map, hs] at hdi
 have hd1 : d = .lit (.string s'.data.toList) := congrArg Prod.fst e2
 rw [hd1] at hdi
 have hb : s.data.toList = s'.data.toList := by simpa using hdi
 have hss : s' = s := by
  obtain ⟨⟨a⟩⟩ := s; obtain ⟨⟨b⟩⟩ := s'
  have hb : a = b := hb
  rw [hb]
 subst hss
 have := congrArg (·[0]?) e1
 simp only [List.getElem?_take, List.getElem?_drop] at this
 rw [World.var?_cell hg hvar j, ← Array.getElem?_toList]
 simpa using this
theorem whole_of {P : Program} {w : World} {name : String} {g : Nat} {t e : TypeId} {n : Nat} {k : IntKind} {zs : List Int} (hg0 : P.globalNamed name = some g) (hty0 : (P.globals[g]?).map (·.type) = some t) (ht : P.underlying t = some (.array n e)) (he : P.underlying e = some (.int k)) (hce : P.cellsOf e = 1) (hct : P.cellsOf t = n)
 (h : VarReads P w name (Lib.tabData k zs)) : ∃ t fr, w.heap[g]? = some (.cells (zs.map fun z => Value.int k z).toArray t fr) := by
 obtain ⟨g', t', cs, fuel, p, hg, hty, hvar, hd⟩ := h
 obtain rfl := Option.some.inj (hg0.symm.trans hg)
 obtain rfl := Option.some.inj (hty0.symm.trans hty)
 have hcs := cells_of_tab ht he hce hct hd
 have e : cs = (zs.map fun z => Value.int k z).toArray := by rw [← hcs]
 subst e
 unfold World.var? at hvar
 rw [hg0] at hvar
 simp only [Option.bind_some] at hvar
 split at hvar
 · rename_i c t' fr hc
   cases hvar
   exact ⟨_, _, hc⟩
 · cases hvar
theorem lt_of_heap {w : World} {g : Nat} {o : Obj} (h : w.heap[g]? = some o) : g < w.heap.size := (Array.getElem?_eq_some_iff.1 h).1
theorem tab_of {W : World} (hsh : W.ShapedOpen Tryz.prog) (h : laidMet Tryz.prog [("math/bits.deBruijn32tab", Rows.laid_math_bits_deBruijn32tab), ("math/bits.deBruijn64tab", Rows.laid_math_bits_deBruijn64tab), ("internal/strconv.uint64pow10", Rows.laid_internal_strconv_uint64pow10), ("unicode/utf8.acceptRanges", Rows.laid_unicode_utf8_acceptRanges), ("strconv.ErrRange", Rows.laid_strconv_ErrRange), ("strconv.ErrSyntax", Rows.laid_strconv_ErrSyntax), ("porter/caveat.kinds", Rows.laid_porter_caveat_kinds), ("porter/caveat.dos", Rows.laid_porter_caveat_dos), ("unicode/utf8.first", Rows.laid_unicode_utf8_first)] W) : Tab (fun b => b < W.heap.size) W := by
 have e1 : (Rows.laid_math_bits_deBruijn64tab : DataW Unit) = Lib.tabData .u8 (Lib.deBruijn64tab.map Int.ofNat) := by kernel_rfl
 have e2 : (Rows.laid_unicode_utf8_acceptRanges : DataW Unit) = acceptData := by kernel_rfl
 have e3 : (Rows.laid_unicode_utf8_first : DataW Unit) = firstData := by kernel_rfl
 have e4 : (Rows.laid_porter_caveat_kinds : DataW Unit) = .agg (T_kinds.map fun s => .lit (.string s.data.toList)) := by kernel_rfl
 have e5 : (Rows.laid_porter_caveat_dos : DataW Unit) = .agg (T_dos.map fun s => .lit (.string s.data.toList)) := by kernel_rfl
 have e6 : (Rows.laid_internal_strconv_uint64pow10 : DataW Unit) = Lib.tabData .u64 Lib.pow10Tab := by kernel_rfl
 rw [e1, e2, e3, e4, e5, e6] at h
 have r1 := br_of (laidMet.reads h (n := "math/bits.deBruijn64tab") (by simp))
 obtain ⟨u1, u2⟩ := u8_of (laidMet.reads h (n := "unicode/utf8.first") (by simp)) (laidMet.reads h (n := "unicode/utf8.acceptRanges") (by simp))
 have k1 := strs_of (l := T_kinds) (t := 45) (show Tryz.prog.globalNamed "porter/caveat.kinds" = some 0 by kernel_rfl) (by kernel_rfl) Tryz.underlying45 Tryz.underlying9 (by kernel_rfl) rfl (laidMet.reads h (n := "porter/caveat.kinds") (by simp))
 have k2 := strs_of (l := T_dos) (t := 72) (show Tryz.prog.globalNamed "porter/caveat.dos" = some 1 by kernel_rfl) (by kernel_rfl) Tryz.underlying72 Tryz.underlying9 (by kernel_rfl) rfl (laidMet.reads h (n := "porter/caveat.dos") (by simp))
 have w1 := whole_of (zs := Lib.pow10Tab) (k := .u64) (t := 163) (show Tryz.prog.globalNamed "internal/strconv.uint64pow10" = some 5 by kernel_rfl) (by kernel_rfl) Tryz.underlying163 Tryz.underlying86 (by kernel_rfl) (by kernel_rfl) (laidMet.reads h (n := "internal/strconv.uint64pow10") (by simp))
 have i1 := iface_at (d := Rows.laid_strconv_ErrSyntax) (t := 55) (show Tryz.prog.globalNamed "strconv.ErrSyntax" = some 3 by kernel_rfl) (by kernel_rfl) Tryz.underlying55 (laidMet.reads h (n := "strconv.ErrSyntax") (by simp))
 have i2 := iface_at (d := Rows.laid_strconv_ErrRange) (t := 55) (show Tryz.prog.globalNamed "strconv.ErrRange" = some 4 by kernel_rfl) (by kernel_rfl) Tryz.underlying55 (laidMet.reads h (n := "strconv.ErrRange") (by simp))
 obtain ⟨mx, hmx⟩ : ∃ m, W.cell? ⟨2, 0, none⟩ = some (.int .i64 m) := Tryz.laysM145.s1_3 W hsh
 have a1 : ∀ (j : Nat) v, ((List.range 256).map fun c => Value.int .u8 (Lib.firstT c))[j]? = some v → W.cell? ⟨6, j, none⟩ = some v := fun j v hv => by
  rw [List.getElem?_map] at hv
  rcases Nat.lt_or_ge j 256 with c | c
  · rw [List.getElem?_range c] at hv
    rw [u1 j c]; exact hv
  · rw [List.getElem?_eq_none (by simpa using c)] at hv; cases hv
 have a2 : ∀ (j : Nat) v, ((List.range 32).map fun j => Value.int .u8 (if j % 2 = 0 then Lib.accLo (j / 2) else Lib.accHi (j / 2)))[j]? = some v → W.cell? ⟨7, j, none⟩ = some v := fun j v hv => by
  rw [List.getElem?_map] at hv
  rcases Nat.lt_or_ge j 32 with c | c
  · rw [List.getElem?_range c] at hv
    have hi : j / 2 < 16 := by omega
    obtain ⟨x, y⟩ := u2 (j / 2) hi
    rcases Nat.mod_two_eq_zero_or_one j with m | m
    · have : j = 2 * (j / 2) := by omega
      rw [← this] at x
      rw [x]
      simpa [m] using hv
    · have : j = 2 * (j / 2) + 1 := by omega
      rw [← this] at y
      rw [y]
      simpa [m] using hv
  · rw [List.getElem?_eq_none (by simpa using c)] at hv; cases hv
 refine ⟨fun p hp => ?_, fun p hp => ?_, fun p hp => ?_⟩
 · rcases List.mem_cons.1 hp with rfl | hp
   · exact ⟨lt_of_cell (r1 0 _ rfl), r1⟩
   rcases List.mem_cons.1 hp with rfl | hp
   · exact ⟨lt_of_cell (u1 0 (by decide)), a1⟩
   rcases List.mem_cons.1 hp with rfl | hp
   · exact ⟨lt_of_cell (u2 0 (by decide)).1, a2⟩
   rcases List.mem_cons.1 hp with rfl | hp
   · exact ⟨lt_of_cell (k1 0 _ rfl), k1⟩
   rcases List.mem_cons.1 hp with rfl | hp
   · exact ⟨lt_of_cell (k2 0 _ rfl), k2⟩
   · cases hp
 · rcases List.mem_cons.1 hp with rfl | hp
   · exact ⟨lt_of_cell hmx, _, hmx, mx, rfl⟩
   rcases List.mem_cons.1 hp with rfl | hp
   · obtain ⟨v, q1, q2⟩ := i1
     exact ⟨lt_of_cell q1, v, q1, q2⟩
   rcases List.mem_cons.1 hp with rfl | hp
   · obtain ⟨v, q1, q2⟩ := i2
     exact ⟨lt_of_cell q1, v, q1, q2⟩
   · cases hp
 · rcases List.mem_cons.1 hp with rfl | hp
   · obtain ⟨t, fr, q⟩ := w1
     exact ⟨lt_of_heap q, t, fr, q⟩
   · cases hp
theorem vflat {cx : Cx} {w : World} {v u : Value} (h : VRep cx w (.t (.flat v)) u) : u = v := by
 cases h with | t x v h => cases h; rfl
theorem law_true {P : Program} {f : FuncId} {args : List V} (h : Fun P f args (fB true)) {W : World} {cargs : Array Value} (hT : Tab (fun b => b < W.heap.size) W) (hr : VReps (Cx.none fun b => b < W.heap.size) W args cargs) :
 Calls P f cargs W fun e W' => e = .returned (.bool true) ∧ Below W.heap.size W W' :=
 (h.2 _ W cargs (fun b h => h) hT hr).mono fun e w' ⟨u, h1, h2, h3⟩ => by
  obtain rfl := vflat h3
  exact ⟨h1, h2⟩
end Lw
end Go.Proofs.YtagppjldegblhaaGreatDoor
