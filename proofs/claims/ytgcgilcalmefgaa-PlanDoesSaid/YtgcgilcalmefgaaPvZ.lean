/- States and events as trees; the elder contracts as functions of the plain machine. -/
import Derived.Test.YtgcgilcalmefgaaAbO
import Derived.Test.YtgcgilcalmefgaaAbL
import Derived.Test.YtgcgilcalmefgaaPlZ
import Derived.Test.YtgcgilcalmefgaaRnLp
import Derived.Test.YtgcgilcalmefgaaRnAm
import Derived.Test.YtgcgilcalmefgaaRnS
import Derived.Test.YtgcgilcalmefgaaRnV
import Derived.Test.YtgcgilcalmefgaaRnU
import Derived.OpenShut
namespace Go.Proofs.Ytgcgilcalmefgaa
open Go Go.RowKit
set_option linter.unusedVariables false
set_option linter.unusedSimpArgs false
set_option maxRecDepth 100000
open Ab
namespace Vw
def keyT (k : Rn.K) : List T := [.flat (.int .i64 k.num), .flat (.string k.txt)]
def tenT (t : Rn.T) : List T := [.flat (.string t.name), .flat (.int .i64 t.epoch), .flat (.int .i64 t.next), .slc (t.keys.map keyT)]
def stT (s : Rn.S) : List T := [.slc (s.tens.map tenT), .flat (.int .i64 s.serial)]
def stV (s : Rn.S) : V := .agg [.t (.slc (s.tens.map tenT)), .t (.flat (.int .i64 s.serial))]
def evT (e : Rn.E) : List T := [.flat (.int .i64 e.kind), .flat (.string e.ten), .flat (.int .i64 e.num), .flat (.int .i64 e.epoch), .flat (.string e.txt)]
def evsV (l : List Rn.E) : V := .t (.slc (l.map evT))
structure SzT (t : Rn.T) : Prop where
  name : t.name.size ≤ maxLen
  keys : t.keys.length ≤ maxLen
  txt : ∀ k ∈ t.keys, k.txt.size ≤ maxLen
structure SzS (s : Rn.S) : Prop where
  tens : s.tens.length ≤ maxLen
  ten : ∀ t ∈ s.tens, SzT t
def SzE (l : List Rn.E) : Prop := ∀ e ∈ l, e.ten.size ≤ maxLen ∧ e.txt.size ≤ maxLen
theorem crep2 {G : Nat → Prop} {w : World} {a b : T} {cs : List Value} (h : CRep G w [a, b] cs) : ∃ x y, cs = [x, y] ∧ TRep G w a x ∧ TRep G w b y := by
  obtain ⟨x, r, rfl, h1, h⟩ := h.uncons
  obtain ⟨y, r, rfl, h2, h⟩ := h.uncons
  have := h.1
  obtain rfl : r = [] := List.eq_nil_of_length_eq_zero (by simpa using this)
  exact ⟨x, y, rfl, h1, h2⟩
theorem crep4 {G : Nat → Prop} {w : World} {a b c d : T} {cs : List Value} (h : CRep G w [a, b, c, d] cs) : ∃ x y z u, cs = [x, y, z, u] ∧ TRep G w a x ∧ TRep G w b y ∧ TRep G w c z ∧ TRep G w d u := by
  obtain ⟨x, r, rfl, h1, h⟩ := h.uncons
  obtain ⟨y, r, rfl, h2, h⟩ := h.uncons
  obtain ⟨z, u, rfl, h3, h4⟩ := crep2 h
  exact ⟨x, y, z, u, rfl, h1, h2, h3, h4⟩
theorem key_in {G : Nat → Prop} {w : World} {k : Rn.K} {cs : List Value} (hk : k.txt.size ≤ maxLen) (h : CRep G w (keyT k) cs) : keyR k cs := by
  obtain ⟨x, y, rfl, h1, h2⟩ := crep2 h
  rw [trep_int h1, trep_str h2]
  exact ⟨rfl, hk⟩
theorem key_out {G : Nat → Prop} {w : World} {k : Rn.K} {cs : List Value} (h : keyR k cs) : CRep G w (keyT k) cs := by
  obtain ⟨rfl, -⟩ := h
  exact .cons (.flat _ rfl) (.cons (.flat _ rfl) .nil)
theorem ten_in {G : Nat → Prop} {w : World} {t : Rn.T} {cs : List Value} (ht : SzT t) (h : CRep G w (tenT t) cs) : tenR G w t cs := by
  obtain ⟨x, y, z, u, rfl, h1, h2, h3, h4⟩ := crep4 h
  rw [trep_str h1, trep_int h2, trep_int h3]
  obtain ⟨A, c, rfl, hf, hr⟩ := rows_of (n := 2) (R := keyR) (fun k _ => rfl) (fun k cs hk h => key_in (ht.txt k hk) h) h4
  exact ⟨A, c, rfl, hf, ht.keys, ht.name, hr⟩
theorem ten_out {G : Nat → Prop} {w : World} {t : Rn.T} {cs : List Value} (h : tenR G w t cs) : CRep G w (tenT t) cs := by
  obtain ⟨A, c, rfl, hf, -, -, hr⟩ := h
  exact .cons (.flat _ rfl) (.cons (.flat _ rfl) (.cons (.flat _ rfl) (.cons (of_rows (n := 2) (R := keyR) (fun k _ => rfl) (fun k cs hk h => key_out h) hf hr) .nil)))
theorem ev_in {G : Nat → Prop} {w : World} {e : Rn.E} {cs : List Value} (he : e.ten.size ≤ maxLen ∧ e.txt.size ≤ maxLen) (h : CRep G w (evT e) cs) : eventR e cs := by
  obtain ⟨x, r, rfl, h1, h⟩ := h.uncons
  obtain ⟨y, z, u, v, rfl, h2, h3, h4, h5⟩ := crep4 h
  rw [trep_int h1, trep_str h2, trep_int h3, trep_int h4, trep_str h5]
  exact ⟨rfl, he⟩
theorem ev_out {G : Nat → Prop} {w : World} {e : Rn.E} {cs : List Value} (h : eventR e cs) : CRep G w (evT e) cs := by
  obtain ⟨rfl, -, -⟩ := h
  exact .cons (.flat _ rfl) (.cons (.flat _ rfl) (.cons (.flat _ rfl) (.cons (.flat _ rfl) (.cons (.flat _ rfl) .nil))))
theorem st_in {cx : Cx} {w : World} {s : Rn.S} {v : Value} (hs : SzS s) (h : VRep cx w (stV s) v) : ∃ A c, v = .agg #[.slice (A) (s).tens.length (c), .int .i64 (s).serial] ∧ Fits A s.tens.length c ∧ TensAt cx.G w A s.tens := by
  obtain ⟨cs, rfl, hc⟩ := vrep_agg (ts := stT s) h
  obtain ⟨x, y, he, h1, h2⟩ := crep2 hc
  obtain ⟨A, c, rfl, hf, hr⟩ := rows_of (n := 4) (R := tenR cx.G w) (fun k _ => rfl) (fun t cs ht h => ten_in (hs.ten t ht) h) h1
  refine ⟨A, c, ?_, hf, hr⟩
  rw [trep_int h2] at he
  rw [show cs = #[.slice (A) (s).tens.length (c), .int .i64 (s).serial] from Array.toList_inj.1 he]
theorem st_out {cx : Cx} {w : World} {s : Rn.S} {A : Option Addr} {c : Nat} (hf : Fits A s.tens.length c) (h : TensAt cx.G w A s.tens) : VRep cx w (stV s) (.agg #[.slice (A) (s).tens.length (c), .int .i64 (s).serial]) :=
  agg_vrep (ts := stT s) (.cons (of_rows (n := 4) (R := tenR cx.G w) (fun k _ => rfl) (fun t cs _ h => ten_out h) hf h) (.cons (.flat _ rfl) .nil))
theorem evs_in {cx : Cx} {w : World} {l : List Rn.E} {v : Value} (hl : SzE l) (h : VRep cx w (evsV l) v) : ∃ A c, v = .slice A l.length c ∧ Fits A l.length c ∧ EventsAt cx.G w A l := by
  cases h with
  | t x v h => exact rows_of (n := 5) (R := eventR) (fun k _ => rfl) (fun e cs he h => ev_in (hl e he) h) h
theorem evs_out {cx : Cx} {w : World} {l : List Rn.E} {A : Option Addr} {c : Nat} (hf : Fits A l.length c) (h : EventsAt cx.G w A l) : VRep cx w (evsV l) (.slice A l.length c) :=
  .t _ _ (of_rows (n := 5) (R := eventR) (fun k _ => rfl) (fun t cs _ h => ev_out h) hf h)
theorem vflat {cx : Cx} {w : World} {v u : Value} (h : VRep cx w (.t (.flat v)) u) : u = v := by
  cases h with | t x v h => cases h; rfl
/-- the values of flat arguments -/
theorem flats {cx : Cx} {w : World} : ∀ (l : List Value) {us : Array Value}, VReps cx w (l.map fun v => V.t (.flat v)) us → us = l.toArray
  | [], us, h => vreps_nil h
  | v :: l, us, h => by
    obtain ⟨u, r, rfl, h1, h2⟩ := vreps_cons h
    rw [vflat h1, flats l h2]
    simp
/-- a function of a state and flat values -/
theorem fun_st {P : Program} {f : FuncId} {s : Rn.S} (l : List Value) {v : V} {R : (Nat → Prop) → World → Ending → World → Prop} (hcall : Callable P f) (hs : SzS s)
    (hR : ∀ G w e w', R G w e w' → ∃ u, e = .returned u ∧ Below w.heap.size w w' ∧ VRep (Cx.none fun b => G b ∨ (w.heap.size ≤ b ∧ b < w'.heap.size)) w' v u)
    (h : ∀ (A : Option Addr) (c : Nat) (G : Nat → Prop) (w : World), (∀ b, G b → b < w.heap.size) → Fits A s.tens.length c → TensAt G w A s.tens → Calls P f (#[.agg #[.slice (A) (s).tens.length (c), .int .i64 (s).serial]] ++ l.toArray) w (R G w)) :
    Fun P f (stV s :: l.map fun v => V.t (.flat v)) v :=
  ⟨hcall, fun G w cargs hG ha => by
    obtain ⟨u, r, rfl, h1, h2⟩ := vreps_cons ha
    obtain ⟨A, c, rfl, hf, hT⟩ := st_in hs h1
    rw [flats l h2]
    exact (h A c G w hG hf hT).mono fun e w' hx => hR G w e w' hx⟩
theorem retG_post {v : V} {u : Value} (hv : ∀ cx w, VRep cx w v u) (G : Nat → Prop) (w : World) (e : Ending) (w' : World) (h : RetG u w e w') : ∃ u, e = .returned u ∧ Below w.heap.size w w' ∧ VRep (Cx.none fun b => G b ∨ (w.heap.size ≤ b ∧ b < w'.heap.size)) w' v u :=
  ⟨u, h.1, h.2, hv _ _⟩
theorem flat_rep {x : Value} (h : oneV x = true) (cx : Cx) (w : World) : VRep cx w (.t (.flat x)) x := .t _ _ (.flat _ h)
theorem flats_rep {cx : Cx} {w : World} (l : List Value) (h : ∀ x ∈ l, oneV x = true) : VReps cx w (l.map fun v => V.t (.flat v)) l.toArray :=
  ⟨by simp, fun i c u h1 h2 => by
    rw [List.getElem?_map] at h1
    obtain ⟨x, hx, rfl⟩ := Option.map_eq_some_iff.1 h1
    rw [List.getElem?_toArray, hx] at h2
    cases h2
    exact flat_rep (h _ (List.mem_of_getElem? hx)) cx w⟩
theorem f_right {s : Rn.S} (hs : SzS s) : Fun Try.prog 13 [stV s] (fB (Rn.right s)) :=
  fun_st [] (Try.call13) hs (retG_post (flat_rep rfl)) (fun A c G w hG _ hT => pright_any s A c G w hG hs.tens hT)
theorem f_rright {s : Rn.S} (hs : SzS s) : Fun Try.prog 14 [stV s] (fB (Rn.right s)) :=
  fun_st [] (Try.call14) hs (retG_post (flat_rep rfl)) (fun A c G w hG _ hT => rright38_any s A c G w hG hs.tens hT)
theorem f_great {s : Rn.S} (hs : SzS s) : Fun Try.prog 9 [stV s] (fB (greatS s)) :=
  fun_st [] (Try.call9) hs (retG_post (flat_rep rfl)) (fun A c G w hG _ hT => great_any s A c G w hG hs.tens hT)
theorem f_find {s : Rn.S} (hs : SzS s) (n : ByteArray) : Fun Try.prog 18 [stV s, fS n] (fI .i64 (findI s.tens n)) :=
  fun_st [.string n] (Try.call18) hs (retG_post (flat_rep rfl)) (fun A c G w hG _ hT => pfind_any s A c n G w hG hs.tens hT)
theorem f_rfind {s : Rn.S} (hs : SzS s) (n : ByteArray) : Fun Try.prog 25 [stV s, fS n] (fI .i64 (findI s.tens n)) :=
  fun_st [.string n] (Try.call25) hs (retG_post (flat_rep rfl)) (fun A c G w hG _ hT => rfind_any s A c n G w hG hs.tens hT)
theorem f_key {s : Rn.S} (hs : SzS s) (n : ByteArray) (num : Int) : Fun Try.prog 21 [stV s, fS n, fI .i64 num] (.tup [fS (keyRes s n num).1, fB (keyRes s n num).2]) :=
  fun_st [.string n, .int .i64 num] (Try.call21) hs (retG_post (fun cx w => .tup _ _ rfl (flats_rep [.string _, .bool _] (by simp [oneV])).2)) (fun A c G w hG _ hT => pkey_any s A c n num G w hG hs.tens hT)
theorem f_rkey {s : Rn.S} (hs : SzS s) (n : ByteArray) (num : Int) : Fun Try.prog 22 [stV s, fS n, fI .i64 num] (.tup [fS (keyRes s n num).1, fB (keyRes s n num).2]) :=
  fun_st [.string n, .int .i64 num] (Try.call22) hs (retG_post (fun cx w => .tup _ _ rfl (flats_rep [.string _, .bool _] (by simp [oneV])).2)) (fun A c G w hG _ hT => rkey38_any s A c n num G w hG hs.tens hT)
theorem f_new {s : Rn.S} (hs : SzS s) (n : ByteArray) : Fun Try.prog 23 [stV s, fS n] (.tup [.agg [fI .i64 (newRes s n).1.num, fS (newRes s n).1.txt], fB (newRes s n).2]) :=
  fun_st [.string n] (Try.call23) hs (retG_post (fun cx w => .tup _ #[_, _] rfl (fun i c u h1 h2 => by
    match i, h1, h2 with
    | 0, h1, h2 =>
      cases h1; cases h2
      exact .agg _ #[_, _] rfl (by simp [fI, fS, V.cellB]) (flats_rep [.int .i64 _, .string _] (by simp [oneV])).2
    | 1, h1, h2 => cases h1; cases h2; exact flat_rep rfl _ _))) (fun A c G w hG _ hT => pnew_any s A c n G w hG hs.tens hT)
theorem f_all {s : Rn.S} {l : List Rn.E} (hs : SzS s) (h1000 : s.tens.length ≤ 1000) (hl : SzE l) (hn : l.length ≤ maxLen) : Fun Try.prog 19 [stV s, evsV l] (.tup [stV (Rn.state (Rn.all s l)), fI .i64 (Rn.err (Rn.all s l))]) :=
  ⟨Try.call19, fun G w cargs hG ha => by
    obtain ⟨u, r, rfl, h1, h2⟩ := vreps_cons ha
    obtain ⟨u2, r2, rfl, h3, h4⟩ := vreps_cons h2
    obtain rfl := vreps_nil h4
    obtain ⟨A, c, rfl, hf, hT⟩ := st_in hs h1
    obtain ⟨B, d, rfl, hg, hE⟩ := evs_in hl h3
    refine (pall_any s l A B c d G w hG h1000 hf hT hn hE).mono fun e w' ⟨A', c', he, hf', hb, hT'⟩ => ⟨_, he, hb, .tup _ #[_, _] rfl fun i c u h1 h2 => ?_⟩
    match i, h1, h2 with
    | 0, h1, h2 => cases h1; cases h2; exact st_out hf' hT'
    | 1, h1, h2 => cases h1; cases h2; exact flat_rep rfl _ _⟩
theorem f_same {s : Rn.S} (hs : SzS s) : Fun Try.prog 17 [stV s, stV s] (fB true) :=
  ⟨Try.call17, fun G w cargs hG ha => by
    obtain ⟨u, r, rfl, h1, h2⟩ := vreps_cons ha
    obtain ⟨u2, r2, rfl, h3, h4⟩ := vreps_cons h2
    obtain rfl := vreps_nil h4
    obtain ⟨A, c, rfl, hf, hT⟩ := st_in hs h1
    obtain ⟨B, d, rfl, hg, hU⟩ := st_in hs h3
    exact (same_any s A B c d G w hG hs.tens hT hU).mono (retG_post (flat_rep rfl) G w)⟩
theorem f_events {l : List Rn.E} (hl : SzE l) (hn : l.length ≤ maxLen) : Fun Try.prog 30 [evsV l, evsV l] (fB true) :=
  ⟨Try.call30, fun G w cargs hG ha => by
    obtain ⟨u, r, rfl, h1, h2⟩ := vreps_cons ha
    obtain ⟨u2, r2, rfl, h3, h4⟩ := vreps_cons h2
    obtain rfl := vreps_nil h4
    obtain ⟨A, c, rfl, hf, hT⟩ := evs_in hl h1
    obtain ⟨B, d, rfl, hg, hU⟩ := evs_in hl h3
    exact (events_any l A B c d G w hG hn hT hU).mono (retG_post (flat_rep rfl) G w)⟩
theorem retEvs_post {l : List Rn.E} (G : Nat → Prop) (w : World) (e : Ending) (w' : World) (h : RetEvs l w e w') : ∃ u, e = .returned u ∧ Below w.heap.size w w' ∧ VRep (Cx.none fun b => G b ∨ (w.heap.size ≤ b ∧ b < w'.heap.size)) w' (evsV l) u := by
  obtain ⟨A, c, he, hf, hb, hE⟩ := h
  exact ⟨_, he, hb, evs_out hf (rows_keep hE (fun _ _ _ h => h) (fun b h => .inr h) (fun b _ => rfl))⟩
theorem retPl_post {l : List Rn.E} {x : Int} (G : Nat → Prop) (w : World) (e : Ending) (w' : World) (h : RetPl l x w e w') : ∃ u, e = .returned u ∧ Below w.heap.size w w' ∧ VRep (Cx.none fun b => G b ∨ (w.heap.size ≤ b ∧ b < w'.heap.size)) w' (.tup [evsV l, fI .i64 x]) u := by
  obtain ⟨A, c, he, hf, hb, hE⟩ := h
  refine ⟨_, he, hb, .tup _ #[_, _] rfl fun i c u h1 h2 => ?_⟩
  match i, h1, h2 with
  | 0, h1, h2 => cases h1; cases h2; exact evs_out hf (rows_keep hE (fun _ _ _ h => h) (fun b h => .inr h) (fun b _ => rfl))
  | 1, h1, h2 => cases h1; cases h2; exact flat_rep rfl _ _
theorem f_image {s : Rn.S} (hs : SzS s) : Fun Try.prog 27 [stV s] (evsV (Pl.image s)) :=
  fun_st [] (Try.call27) hs retEvs_post (fun A c G w hG _ hT => by
    unfold Pl.image
    cases h : Rn.right s with
    | false => exact pimage_bad s A c G w hG hs.tens hT h
    | true => exact pimage_ok s A c G w hG hs.tens hT h)
theorem f_rimage {s : Rn.S} (hs : SzS s) : Fun Try.prog 31 [stV s] (evsV (Pl.image s)) :=
  fun_st [] (Try.call31) hs retEvs_post (fun A c G w hG _ hT => by
    unfold Pl.image
    cases h : Rn.right s with
    | false => exact rimage_bad s A c G w hG hs.tens hT h
    | true => exact rimage_ok s A c G w hG hs.tens hT h)
def plV (r : List Rn.E × Int) : V := .tup [evsV r.1, fI .i64 r.2]
set_option linter.unusedSectionVars false
section
variable {s : Rn.S} (hs : SzS s) {n key : ByteArray} (num : Int) (hn : n.size ≤ maxLen) (hk : key.size ≤ maxLen)
include hs hn hk
theorem f_tenant : Fun Try.prog 47 [stV s, fS n, fS key] (plV (Pl.planR 1 s n key num)) :=
  fun_st [.string n, .string key] (Try.call47) hs retPl_post (fun A c G w hG _ hT => ptn_any s A c n key num G w hG hs.tens hT hn hk)
theorem f_rotate : Fun Try.prog 49 [stV s, fS n, fS key] (plV (Pl.planR 2 s n key num)) :=
  fun_st [.string n, .string key] (Try.call49) hs retPl_post (fun A c G w hG _ hT => prot_any s A c n key num G w hG hs.tens hT hn hk)
theorem f_retire : Fun Try.prog 50 [stV s, fS n, fI .i64 num] (plV (Pl.planR 3 s n key num)) :=
  fun_st [.string n, .int .i64 num] (Try.call50) hs retPl_post (fun A c G w hG _ hT => pret_any s A c n num key G w hG hs.tens hT hn)
theorem f_revoke : Fun Try.prog 51 [stV s, fS n] (plV (Pl.planR 4 s n key num)) :=
  fun_st [.string n] (Try.call51) hs retPl_post (fun A c G w hG _ hT => prev_any s A c n num key G w hG hs.tens hT hn)
theorem f_mint : Fun Try.prog 48 [stV s, fS n] (plV (Pl.planR 5 s n key num)) :=
  fun_st [.string n] (Try.call48) hs retPl_post (fun A c G w hG _ hT => pmint_any s A c n num key G w hG hs.tens hT hn)
end
theorem f_rword (n : ByteArray) (hn : n.size ≤ maxLen) : Fun Try.prog 40 [fS n] (fB (Nm.wordB n.data.toList)) :=
  ⟨Try.call40, fun G w cargs hG ha => by
    rw [flats [.string n] ha]
    refine (Nm.rword_any n w hn).mono fun e w' ⟨he, hw⟩ => ?_
    subst hw
    exact ⟨_, he, Below.refl _ _, flat_rep rfl _ _⟩⟩
end Vw
end Go.Proofs.Ytgcgilcalmefgaa
namespace Go.Proofs.Ytgcgilcalmefgaa
open Go Go.RowKit Go.ChangeShapes Go.WideShapes
set_option linter.unusedVariables false
set_option linter.unusedSimpArgs false
set_option maxRecDepth 100000
open Ab Vw
theorem sz_state {G : Nat → Prop} {w : World} {A : Option Addr} {s : Rn.S} (hl : s.tens.length ≤ maxLen) (hT : TensAt G w A s.tens) : SzS s := by
  refine ⟨hl, fun t ht => ?_⟩
  obtain ⟨j, hj, rfl⟩ := List.getElem_of_mem ht
  obtain ⟨b, o, rfl, hG, hk⟩ := hT (by omega)
  obtain ⟨cs, ⟨A', c', -, hf, h1, h2, h3⟩, -⟩ := hk j hj
  refine ⟨h2, h1, fun k hk' => ?_⟩
  obtain ⟨i, hi, rfl⟩ := List.getElem_of_mem hk'
  obtain ⟨b', o', -, -, hk2⟩ := h3 (by omega)
  obtain ⟨cs', ⟨-, h4⟩, -⟩ := hk2 i hi
  exact h4
theorem law_true {P : Program} {f : FuncId} {args : List V} (h : Fun P f args (fB true)) {W : World} {cargs : Array Value} (hr : VReps (Cx.none fun b => b < W.heap.size) W args cargs) :
    Calls P f cargs W fun e W' => e = .returned (.bool true) ∧ Below W.heap.size W W' :=
  (h.2 _ W cargs (fun b h => h) hr).mono fun e w' ⟨u, h1, h2, h3⟩ => by
    obtain rfl := vflat h3
    exact ⟨h1, h2⟩
theorem vreps1 {cx : Cx} {w : World} {a : V} {x : Value} (h : VRep cx w a x) : VReps cx w [a] #[x] := ⟨rfl, fun i c u h1 h2 => by
  match i, h1, h2 with
  | 0, h1, h2 => cases h1; cases h2; exact h⟩
theorem vreps3 {cx : Cx} {w : World} {a b c : V} {x y z : Value} (h : VRep cx w a x) (g : VRep cx w b y) (k : VRep cx w c z) : VReps cx w [a, b, c] #[x, y, z] := ⟨rfl, fun i c u h1 h2 => by
  match i, h1, h2 with
  | 0, h1, h2 => cases h1; cases h2; exact h
  | 1, h1, h2 => cases h1; cases h2; exact g
  | 2, h1, h2 => cases h1; cases h2; exact k⟩
theorem pair_rep {cx : Cx} {w : World} (a b : ByteArray) : VRep cx w (.agg [fS a, fS b]) (.agg #[.string a, .string b]) :=
  agg_vrep (ts := [.flat (.string a), .flat (.string b)]) (.cons (.flat _ rfl) (.cons (.flat _ rfl) .nil))
section
variable {H : Type} {enc : TypeId × Value → H} {W : World} {sp : Nat → Bool} {held : Bool}
theorem okWide_arr {P : Program} {r : Reach} {base : Nat} {t : TypeId} {v : Value} {n : Nat} {e : TypeId} (ht : P.underlying t = some (.array n e)) (h : Value.okWide P W r base t v) : ∃ cs, v = .agg cs ∧ cs.size = P.cellsOf t := by
  simp only [Value.okWide, ht] at h
  obtain ⟨cs, h1, h2, _⟩ := h
  exact ⟨cs, h1, h2⟩
theorem open_pair {fuel : Nat} {cs : List Value} {x : DataW H × List MemPlace} (h : DataW.trod enc Try.prog W 0 sp held fuel 49 cs = some x) :
    ∃ a b : ByteArray, cs = [.string a, .string b] ∧ a.size ≤ maxLen ∧ b.size ≤ maxLen := by
  obtain ⟨xs, m, rfl, hx, hl, hxl, hf⟩ := DataW.trod_array Try.underlying49 h
  have c9 : Try.prog.cellsOf 9 = 1 := by kernel_rfl
  have c2 : Try.prog.cellsOf 49 = 2 := by kernel_rfl
  rw [c2] at hl
  have hx2 : xs.length = 2 := hxl
  match cs, hl with
  | [v0, v1], _ =>
  have f0 := hf 0 (by omega)
  have f1 := hf 1 (by omega)
  rw [List.getElem?_eq_getElem (by omega), c9] at f0 f1
  obtain ⟨s, e0, -, hs⟩ := DataW.trod_string Try.underlying9 (cs := [v0]) f0
  obtain ⟨t, e1, -, ht⟩ := DataW.trod_string Try.underlying9 (cs := [v1]) f1
  injection e0 with e0 _
  injection e1 with e1 _
  subst e0 e1
  exact ⟨s, t, rfl, hs, ht⟩
end
end Go.Proofs.Ytgcgilcalmefgaa
namespace Go.Proofs.Ytgcgilcalmefgaa
open Go Go.RowKit
set_option linter.unusedVariables false
set_option linter.unusedSimpArgs false
set_option maxRecDepth 100000
open Ab Vw
namespace Pl
def acme : ByteArray := ⟨#[97, 99, 109, 101]⟩
def text : ByteArray := ⟨#[48, 49, 50, 51, 52, 53, 54, 55, 56, 57, 97, 98, 99, 100, 101, 102, 48, 49, 50, 51, 52, 53, 54, 55, 56, 57, 97, 98, 99, 100, 101, 102]⟩
def s0 : Rn.S := ⟨[], 6⟩
def s1 : Rn.S := ⟨[⟨acme, 0, 2, [⟨1, text⟩]⟩], 6⟩
theorem w1 : planR 1 s0 acme text 0 = ([evT acme 2 0, evK acme 1 text], 0) := by kernel_rfl
theorem w2 : Rn.all s0 [evT acme 2 0, evK acme 1 text] = .ok s1 := by kernel_rfl
theorem w3 : planR 5 s1 acme text 0 = ([evS 7], 0) := by kernel_rfl
theorem w4 : image s1 = [evT acme 2 0, evK acme 1 text, evS 6] := by kernel_rfl
theorem sz_text : acme.size ≤ maxLen ∧ text.size ≤ maxLen := by decide
theorem sz0 : SzS s0 := ⟨Nat.zero_le _, fun t h => by cases h⟩
theorem sz1 : SzS s1 := ⟨by decide, fun t h => by
  obtain rfl : t = ⟨acme, 0, 2, [⟨1, text⟩]⟩ := by simpa [s1] using h
  exact ⟨sz_text.1, by decide, fun k hk => by obtain rfl : k = ⟨1, text⟩ := (by simpa using hk); exact sz_text.2⟩⟩
theorem sze1 : SzE [evT acme 2 0, evK acme 1 text] := fun e h => by
  rcases (show e = evT acme 2 0 ∨ e = evK acme 1 text by simpa using h) with rfl | rfl
  · exact ⟨sz_text.1, Nat.zero_le _⟩
  · exact sz_text
end Pl
theorem works40_f : Fun Try.prog 26 [] (fB true) := by
  refine fun_of lay_ok Try.call26 Try.func26 rfl ?_
  rintro A ⟨ar, cmp, conj, ne0, ge0, conv, slen, scmp, cat, catok, sat, sin, ssub, ssin, llen, row, lsub, lsin, lset, lapp, lzero, room, roomz, ifb, pcall, call, draw, other, mki, asrt, inv⟩ Q hE hQ
  have h1 := f_tenant Pl.sz0 0 Pl.sz_text.1 Pl.sz_text.2
  rw [Pl.w1] at h1
  have h2 := f_all Pl.sz0 (by decide) Pl.sze1 (by decide)
  rw [Pl.w2] at h2
  have h3 := f_mint Pl.sz1 0 Pl.sz_text.1 Pl.sz_text.2
  rw [Pl.w3] at h3
  have h4 := f_image Pl.sz1
  rw [Pl.w4] at h4
  unfold Vw.plV Vw.stV Vw.evsV Pl.s0 at *
  obtain ⟨X, hX⟩ : ∃ X : Ab.Rows, X = [Pl.evT Pl.acme 2 0, Pl.evK Pl.acme 1 Pl.text].map Vw.evT := ⟨_, rfl⟩
  obtain ⟨Y, hY⟩ : ∃ Y : Ab.Rows, Y = [Pl.evS 7].map Vw.evT := ⟨_, rfl⟩
  obtain ⟨Z, hZ⟩ : ∃ Z : Ab.Rows, Z = [Pl.evT Pl.acme 2 0, Pl.evK Pl.acme 1 Pl.text, Pl.evS 6].map Vw.evT := ⟨_, rfl⟩
  obtain ⟨S, hS⟩ : ∃ S : Ab.Rows, S = Pl.s1.tens.map Vw.tenT := ⟨_, rfl⟩
  have lX : llen X = 2 := (e_llen hE X).trans (by rw [hX]; rfl)
  have lY : llen Y = 1 := (e_llen hE Y).trans (by rw [hY]; rfl)
  have lZ : llen Z = 3 := (e_llen hE Z).trans (by rw [hZ]; rfl)
  have g1 : Fun Try.prog 47 [.agg [.t (.slc []), fI .i64 6], fS Pl.acme, fS Pl.text] (.tup [.t (.slc X), fI .i64 0]) := by rw [hX]; exact h1
  have g2 : Fun Try.prog 19 [.agg [.t (.slc []), fI .i64 6], .t (.slc X)] (.tup [.agg [.t (.slc S), fI .i64 6], fI .i64 0]) := by rw [hX, hS]; exact h2
  have g3 : Fun Try.prog 48 [.agg [.t (.slc S), fI .i64 6], fS Pl.acme] (.tup [.t (.slc Y), fI .i64 0]) := by rw [hY, hS]; exact h3
  have g4 : Fun Try.prog 27 [.agg [.t (.slc S), fI .i64 6]] (.t (.slc Z)) := by rw [hZ, hS]; exact h4
  clear h1 h2 h3 h4
  have rY : Y[Int.toNat 0]? = some (Vw.evT (Pl.evS 7)) := by rw [hY]; rfl
  cbv
  repeat ((first | refine r_true hE (y_eql hE rfl) ?_ | refine r_true hE (y_eql hE lX) ?_ | refine r_true hE (y_eql hE lY) ?_ | refine r_true hE (y_eql hE lZ) ?_ | refine r_true hE (by cases hE; simp [cmpF, scmpF]) ?_ | refine use_fun hE g1 rfl rfl ?_ | refine use_fun hE g2 rfl rfl ?_ | refine use_fun hE g3 rfl rfl ?_ | refine use_fun hE g4 rfl rfl ?_ | refine r_row hE (Int.le_refl 0) rY ?_); cbv)
  exact (hQ _ _ _ rfl rfl (nrm_b (y_eql hE lZ))).1
section
variable {s : Rn.S} (hs : SzS s) {n key : ByteArray} (num : Int) (hn : n.size ≤ maxLen) (hk : key.size ≤ maxLen)
include hs hn hk
set_option linter.unusedSectionVars false
theorem does1_f : Fun Try.prog 28 [fI .i64 1, stV s, fS n, fS key, fI .i64 num] (plV (Pl.planR 1 s n key num)) := by
  refine fun_of lay_ok Try.call28 Try.func28 rfl ?_
  rintro A ⟨ar, cmp, conj, ne0, ge0, conv, slen, scmp, cat, catok, sat, sin, ssub, ssin, llen, row, lsub, lsin, lset, lapp, lzero, room, roomz, ifb, pcall, call, draw, other, mki, asrt, inv⟩ Q hE hQ
  have h := f_tenant hs num hn hk
  generalize Pl.planR 1 s n key num = r at *
  unfold Vw.plV Vw.evsV at *
  obtain ⟨r1, r2⟩ := r
  generalize r1.map Vw.evT = R at *
  unfold Vw.stV at *
  generalize s.tens.map Vw.tenT = X at *
  generalize s.serial = ser at *
  cbv
  repeat ((first | refine r_true hE (y_eql hE rfl) ?_ | refine r_false hE (n_eql hE (by decide)) ?_ | refine use_fun hE h rfl rfl ?_); cbv)
  exact (hQ _ _ _ rfl rfl rfl).1
theorem does2_f : Fun Try.prog 28 [fI .i64 2, stV s, fS n, fS key, fI .i64 num] (plV (Pl.planR 2 s n key num)) := by
  refine fun_of lay_ok Try.call28 Try.func28 rfl ?_
  rintro A ⟨ar, cmp, conj, ne0, ge0, conv, slen, scmp, cat, catok, sat, sin, ssub, ssin, llen, row, lsub, lsin, lset, lapp, lzero, room, roomz, ifb, pcall, call, draw, other, mki, asrt, inv⟩ Q hE hQ
  have h := f_rotate hs num hn hk
  generalize Pl.planR 2 s n key num = r at *
  unfold Vw.plV Vw.evsV at *
  obtain ⟨r1, r2⟩ := r
  generalize r1.map Vw.evT = R at *
  unfold Vw.stV at *
  generalize s.tens.map Vw.tenT = X at *
  generalize s.serial = ser at *
  cbv
  repeat ((first | refine r_true hE (y_eql hE rfl) ?_ | refine r_false hE (n_eql hE (by decide)) ?_ | refine use_fun hE h rfl rfl ?_); cbv)
  exact (hQ _ _ _ rfl rfl rfl).1
theorem does3_f : Fun Try.prog 28 [fI .i64 3, stV s, fS n, fS key, fI .i64 num] (plV (Pl.planR 3 s n key num)) := by
  refine fun_of lay_ok Try.call28 Try.func28 rfl ?_
  rintro A ⟨ar, cmp, conj, ne0, ge0, conv, slen, scmp, cat, catok, sat, sin, ssub, ssin, llen, row, lsub, lsin, lset, lapp, lzero, room, roomz, ifb, pcall, call, draw, other, mki, asrt, inv⟩ Q hE hQ
  have h := f_retire hs num hn hk
  generalize Pl.planR 3 s n key num = r at *
  unfold Vw.plV Vw.evsV at *
  obtain ⟨r1, r2⟩ := r
  generalize r1.map Vw.evT = R at *
  unfold Vw.stV at *
  generalize s.tens.map Vw.tenT = X at *
  generalize s.serial = ser at *
  cbv
  repeat ((first | refine r_true hE (y_eql hE rfl) ?_ | refine r_false hE (n_eql hE (by decide)) ?_ | refine use_fun hE h rfl rfl ?_); cbv)
  exact (hQ _ _ _ rfl rfl rfl).1
theorem does4_f : Fun Try.prog 28 [fI .i64 4, stV s, fS n, fS key, fI .i64 num] (plV (Pl.planR 4 s n key num)) := by
  refine fun_of lay_ok Try.call28 Try.func28 rfl ?_
  rintro A ⟨ar, cmp, conj, ne0, ge0, conv, slen, scmp, cat, catok, sat, sin, ssub, ssin, llen, row, lsub, lsin, lset, lapp, lzero, room, roomz, ifb, pcall, call, draw, other, mki, asrt, inv⟩ Q hE hQ
  have h := f_revoke hs num hn hk
  generalize Pl.planR 4 s n key num = r at *
  unfold Vw.plV Vw.evsV at *
  obtain ⟨r1, r2⟩ := r
  generalize r1.map Vw.evT = R at *
  unfold Vw.stV at *
  generalize s.tens.map Vw.tenT = X at *
  generalize s.serial = ser at *
  cbv
  repeat ((first | refine r_true hE (y_eql hE rfl) ?_ | refine r_false hE (n_eql hE (by decide)) ?_ | refine use_fun hE h rfl rfl ?_); cbv)
  exact (hQ _ _ _ rfl rfl rfl).1
theorem does5_f : Fun Try.prog 28 [fI .i64 5, stV s, fS n, fS key, fI .i64 num] (plV (Pl.planR 5 s n key num)) := by
  refine fun_of lay_ok Try.call28 Try.func28 rfl ?_
  rintro A ⟨ar, cmp, conj, ne0, ge0, conv, slen, scmp, cat, catok, sat, sin, ssub, ssin, llen, row, lsub, lsin, lset, lapp, lzero, room, roomz, ifb, pcall, call, draw, other, mki, asrt, inv⟩ Q hE hQ
  have h := f_mint hs num hn hk
  generalize Pl.planR 5 s n key num = r at *
  unfold Vw.plV Vw.evsV at *
  obtain ⟨r1, r2⟩ := r
  generalize r1.map Vw.evT = R at *
  unfold Vw.stV at *
  generalize s.tens.map Vw.tenT = X at *
  generalize s.serial = ser at *
  cbv
  repeat ((first | refine r_true hE (y_eql hE rfl) ?_ | refine r_false hE (n_eql hE (by decide)) ?_ | refine use_fun hE h rfl rfl ?_); cbv)
  exact (hQ _ _ _ rfl rfl rfl).1
end
end Go.Proofs.Ytgcgilcalmefgaa
namespace Go.Proofs.Ytgcgilcalmefgaa
open Go Go.RowKit
set_option linter.unusedVariables false
set_option linter.unusedSimpArgs false
set_option linter.unusedSectionVars false
set_option maxRecDepth 100000
open Ab Vw
section
variable {s : Rn.S} (hs : SzS s) {n key : ByteArray} (num : Int) (hn : n.size ≤ maxLen) (hk : key.size ≤ maxLen)
include hs hn hk
theorem rplan1_f : Fun Try.prog 29 [fI .i64 1, stV s, fS n, fS key, fI .i64 num] (plV (Pl.planR 1 s n key num)) := by
  refine fun_of lay_ok Try.call29 Try.func29 rfl ?_
  rintro A ⟨ar, cmp, conj, ne0, ge0, conv, slen, scmp, cat, catok, sat, sin, ssub, ssin, llen, row, lsub, lsin, lset, lapp, lzero, room, roomz, ifb, pcall, call, draw, other, mki, asrt, inv⟩ Q hE hQ
  have h1 := f_rright hs
  have h2 := f_rfind hs n
  have h3 := f_rword n hn
  have h4 := f_rkey hs n num
  have lX : llen (s.tens.map Vw.tenT) = s.tens.length := (e_llen hE _).trans (by simp)
  unfold Vw.stV at h1 h2 h4 ⊢
  have lk : slen key = key.size := e_slen hE key
  have rX : ∀ (i : Nat) (hi : i < s.tens.length), (s.tens.map Vw.tenT)[i]? = some (Vw.tenT s.tens[i]) := fun i hi => by simp [hi]
  generalize s.tens.map Vw.tenT = X at *
  cases hr : Rn.right s with
  | false =>
    rw [hr] at h1
    have hpl : Pl.planR 1 s n key num = ([], 7) := by simp [Pl.planR, hr]
    rw [hpl] at hQ
    generalize s.serial = ser at *
    generalize findI s.tens n = at_ at *
    cbv
    repeat ((first | refine r_true hE (y_eql hE rfl) ?_ | refine r_false hE (n_eql hE (by decide)) ?_ | refine r_true hE (rfl) ?_ | refine r_false hE (rfl) ?_ | refine use_fun hE h1 rfl rfl ?_ | refine use_fun hE h2 rfl rfl ?_); cbv)
    exact (hQ _ _ _ rfl rfl rfl).1
  | true =>
  rw [hr] at h1
  cases hw : Nm.wordB n.data.toList with
  | false =>
    rw [hw] at h3
    have hpl : Pl.planR 1 s n key num = ([], 4) := by simp [Pl.planR, hr, hw]
    rw [hpl] at hQ
    generalize s.serial = ser at *
    generalize hat : findI s.tens n = at_ at *
    clear hpl
    cbv
    repeat ((first | refine r_true hE (y_eql hE rfl) ?_ | refine r_false hE (n_eql hE (by decide)) ?_ | refine r_true hE (rfl) ?_ | refine r_false hE (rfl) ?_ | refine use_fun hE h1 rfl rfl ?_ | refine use_fun hE h2 rfl rfl ?_ | refine use_fun hE h3 rfl rfl ?_); cbv)
    exact (hQ _ _ _ rfl rfl rfl).1
  | true =>
  rw [hw] at h3
  by_cases hk32 : key.size = 32
  case neg =>
    have hpl : Pl.planR 1 s n key num = ([], 7) := by simp [Pl.planR, hr, hw, hk32]
    rw [hpl] at hQ
    generalize s.serial = ser at *
    generalize hat : findI s.tens n = at_ at *
    clear hpl
    cbv
    repeat ((first | refine r_true hE (y_eql hE rfl) ?_ | refine r_false hE (n_eql hE (by decide)) ?_ | refine r_true hE (rfl) ?_ | refine r_false hE (rfl) ?_ | refine use_fun hE h1 rfl rfl ?_ | refine use_fun hE h2 rfl rfl ?_ | refine use_fun hE h3 rfl rfl ?_ | refine r_true hE (y_neq hE (show ¬ slen key = 32 by have e : slen key = ((key.size : Nat) : Int) := lk; omega)) ?_); cbv)
    exact (hQ _ _ _ rfl rfl rfl).1
  by_cases hf : 0 ≤ findI s.tens n
  case pos =>
    have hpl : Pl.planR 1 s n key num = ([], 5) := by simp [Pl.planR, hr, hw, hk32, hf]
    rw [hpl] at hQ
    generalize s.serial = ser at *
    generalize hat : findI s.tens n = at_ at *
    clear hpl
    cbv
    repeat ((first | refine r_true hE (y_eql hE rfl) ?_ | refine r_false hE (n_eql hE (by decide)) ?_ | refine r_true hE (rfl) ?_ | refine r_false hE (rfl) ?_ | refine use_fun hE h1 rfl rfl ?_ | refine use_fun hE h2 rfl rfl ?_ | refine use_fun hE h3 rfl rfl ?_ | refine r_false hE (n_neq hE (show slen key = 32 by have e : slen key = ((key.size : Nat) : Int) := lk; omega)) ?_ | refine r_true hE (y_geq hE hf) ?_); cbv)
    exact (hQ _ _ _ rfl rfl rfl).1
  by_cases h16 : s.tens.length = 16
  case pos =>
    have hpl : Pl.planR 1 s n key num = ([], 3) := by simp [Pl.planR, hr, hw, hk32, hf, h16]
    rw [hpl] at hQ
    generalize s.serial = ser at *
    generalize hat : findI s.tens n = at_ at *
    clear hpl
    cbv
    repeat ((first | refine r_true hE (y_eql hE rfl) ?_ | refine r_false hE (n_eql hE (by decide)) ?_ | refine r_true hE (rfl) ?_ | refine r_false hE (rfl) ?_ | refine use_fun hE h1 rfl rfl ?_ | refine use_fun hE h2 rfl rfl ?_ | refine use_fun hE h3 rfl rfl ?_ | refine r_false hE (n_neq hE (show slen key = 32 by have e : slen key = ((key.size : Nat) : Int) := lk; omega)) ?_ | refine r_false hE (n_geq hE hf) ?_ | refine r_true hE (y_eql hE (show llen X = 16 by have e : llen X = ((s.tens.length : Nat) : Int) := lX; omega)) ?_); cbv)
    exact (hQ _ _ _ rfl rfl rfl).1
  have hpl : Pl.planR 1 s n key num = ([Pl.evT n 2 0, Pl.evK n 1 key], 0) := by simp [Pl.planR, hr, hw, hk32, hf, h16]
  rw [hpl] at hQ
  generalize s.serial = ser at *
  generalize hat : findI s.tens n = at_ at *
  clear hpl
  cbv
  repeat ((first | refine r_true hE (y_eql hE rfl) ?_ | refine r_false hE (n_eql hE (by decide)) ?_ | refine r_true hE (rfl) ?_ | refine r_false hE (rfl) ?_ | refine use_fun hE h1 rfl rfl ?_ | refine use_fun hE h2 rfl rfl ?_ | refine use_fun hE h3 rfl rfl ?_ | refine r_false hE (n_neq hE (show slen key = 32 by have e : slen key = ((key.size : Nat) : Int) := lk; omega)) ?_ | refine r_false hE (n_geq hE hf) ?_ | refine r_false hE (n_eql hE (show ¬ llen X = 16 by have e : llen X = ((s.tens.length : Nat) : Int) := lX; omega)) ?_); cbv)
  exact (hQ _ _ _ rfl rfl rfl).1
theorem rplan2_f : Fun Try.prog 29 [fI .i64 2, stV s, fS n, fS key, fI .i64 num] (plV (Pl.planR 2 s n key num)) := by
  refine fun_of lay_ok Try.call29 Try.func29 rfl ?_
  rintro A ⟨ar, cmp, conj, ne0, ge0, conv, slen, scmp, cat, catok, sat, sin, ssub, ssin, llen, row, lsub, lsin, lset, lapp, lzero, room, roomz, ifb, pcall, call, draw, other, mki, asrt, inv⟩ Q hE hQ
  have h1 := f_rright hs
  have h2 := f_rfind hs n
  have h3 := f_rword n hn
  have h4 := f_rkey hs n num
  have lX : llen (s.tens.map Vw.tenT) = s.tens.length := (e_llen hE _).trans (by simp)
  unfold Vw.stV at h1 h2 h4 ⊢
  have lk : slen key = key.size := e_slen hE key
  have rX : ∀ (i : Nat) (hi : i < s.tens.length), (s.tens.map Vw.tenT)[i]? = some (Vw.tenT s.tens[i]) := fun i hi => by simp [hi]
  generalize s.tens.map Vw.tenT = X at *
  cases hr : Rn.right s with
  | false =>
    rw [hr] at h1
    have hpl : Pl.planR 2 s n key num = ([], 7) := by simp [Pl.planR, hr]
    rw [hpl] at hQ
    generalize s.serial = ser at *
    generalize findI s.tens n = at_ at *
    cbv
    repeat ((first | refine r_true hE (y_eql hE rfl) ?_ | refine r_false hE (n_eql hE (by decide)) ?_ | refine r_true hE (rfl) ?_ | refine r_false hE (rfl) ?_ | refine use_fun hE h1 rfl rfl ?_ | refine use_fun hE h2 rfl rfl ?_); cbv)
    exact (hQ _ _ _ rfl rfl rfl).1
  | true =>
  rw [hr] at h1
  by_cases hf : findI s.tens n < 0
  case pos =>
    have hpl : Pl.planR 2 s n key num = ([], 6) := by simp [Pl.planR, hr, hf]
    rw [hpl] at hQ
    generalize s.serial = ser at *
    generalize hat : findI s.tens n = at_ at *
    clear hpl
    cbv
    repeat ((first | refine r_true hE (y_eql hE rfl) ?_ | refine r_false hE (n_eql hE (by decide)) ?_ | refine r_true hE (rfl) ?_ | refine r_false hE (rfl) ?_ | refine use_fun hE h1 rfl rfl ?_ | refine use_fun hE h2 rfl rfl ?_ | refine r_true hE (y_lss hE hf) ?_); cbv)
    exact (hQ _ _ _ rfl rfl rfl).1
  obtain ⟨i, hi, hfi, hta, hname, he0, he1, hx0, hx1⟩ := ten_there hr hf
  have rI := rX i hi
  have lK : llen ((s.tens[i].keys).map Vw.keyT) = s.tens[i].keys.length := (e_llen hE _).trans (by simp)
  have lmax : (s.tens[i].keys.length : Int) ≤ 9223372036854775807 := by have := (hs.ten _ (List.getElem_mem hi)).keys; unfold maxLen at this; omega
  have lL := fun (k : Nat) (hk : k < s.tens[i].keys.length) (hl : s.tens[i].keys.length = k + 1) => newRes_last hi hfi hk hl
  have lM := fun (hz : s.tens[i].keys.length = 0) => keyRes_no (num := num) hi hfi (by rw [List.eq_nil_of_length_eq_zero hz]; rfl)
  have rK : ∀ (k : Nat) (hk : k < s.tens[i].keys.length), (s.tens[i].keys.map Vw.keyT)[k]? = some [.flat (.int .i64 s.tens[i].keys[k].num), .flat (.string s.tens[i].keys[k].txt)] := fun k hk => by simp [hk, Vw.keyT]
  have h0 : 0 ≤ findI s.tens n := by omega
  have rJ : X[(findI s.tens n).toNat]? = some (Vw.tenT s.tens[i]) := by rw [hfi]; exact rI
  clear rI
  generalize s.tens[i] = t at *
  obtain ⟨tn, te, tx, ks⟩ := t
  dsimp only at *
  unfold Vw.tenT at rJ
  dsimp only at rJ
  have lN : llen (ks.map Vw.keyT) = llen (ks.map Vw.keyT) := rfl
  generalize ks.map Vw.keyT = KS at *
  by_cases hk32 : key.size = 32
  case neg =>
    have hpl : Pl.planR 2 s n key num = ([], 7) := by simp [Pl.planR, hr, hf, hk32]
    rw [hpl] at hQ
    generalize s.serial = ser at *
    generalize hat : findI s.tens n = at_ at *
    clear hpl
    cbv
    repeat ((first | refine r_true hE (y_eql hE rfl) ?_ | refine r_false hE (n_eql hE (by decide)) ?_ | refine r_true hE (rfl) ?_ | refine r_false hE (rfl) ?_ | refine use_fun hE h1 rfl rfl ?_ | refine use_fun hE h2 rfl rfl ?_ | refine r_false hE (n_lss hE hf) ?_ | refine r_row hE h0 rJ ?_ | refine r_true hE (y_neq hE (show ¬ slen key = 32 by have e : slen key = ((key.size : Nat) : Int) := lk; omega)) ?_); cbv)
    exact (hQ _ _ _ rfl rfl rfl).1
  by_cases h8 : ks.length = 8
  case pos =>
    have hpl : Pl.planR 2 s n key num = ([], 3) := by simp [Pl.planR, hr, hf, hk32, hta, h8]
    rw [hpl] at hQ
    generalize s.serial = ser at *
    generalize hat : findI s.tens n = at_ at *
    clear hpl
    cbv
    repeat ((first | refine r_true hE (y_eql hE rfl) ?_ | refine r_false hE (n_eql hE (by decide)) ?_ | refine r_true hE (rfl) ?_ | refine r_false hE (rfl) ?_ | refine use_fun hE h1 rfl rfl ?_ | refine use_fun hE h2 rfl rfl ?_ | refine r_false hE (n_lss hE hf) ?_ | refine r_row hE h0 rJ ?_ | refine r_false hE (n_neq hE (show slen key = 32 by have e : slen key = ((key.size : Nat) : Int) := lk; omega)) ?_ | refine r_true hE (y_eql hE (show llen KS = 8 by have e : llen KS = ((ks.length : Nat) : Int) := lK; omega)) ?_); cbv)
    exact (hQ _ _ _ rfl rfl rfl).1
  by_cases hx : tx = 1099511627776
  case pos =>
    have hpl : Pl.planR 2 s n key num = ([], 3) := by simp [Pl.planR, hr, hf, hk32, hta, hx]
    rw [hpl] at hQ
    generalize s.serial = ser at *
    generalize hat : findI s.tens n = at_ at *
    clear hpl
    cbv
    repeat ((first | refine r_true hE (y_eql hE rfl) ?_ | refine r_false hE (n_eql hE (by decide)) ?_ | refine r_true hE (rfl) ?_ | refine r_false hE (rfl) ?_ | refine use_fun hE h1 rfl rfl ?_ | refine use_fun hE h2 rfl rfl ?_ | refine r_false hE (n_lss hE hf) ?_ | refine r_row hE h0 rJ ?_ | refine r_false hE (n_neq hE (show slen key = 32 by have e : slen key = ((key.size : Nat) : Int) := lk; omega)) ?_ | refine r_false hE (n_eql hE (show ¬ llen KS = 8 by have e : llen KS = ((ks.length : Nat) : Int) := lK; omega)) ?_ | refine r_true hE (y_eql hE hx) ?_); cbv)
    exact (hQ _ _ _ rfl rfl rfl).1
  have hadd : ar .add .i64 tx 1 = tx + 1 := e_add hE (by omega) (by omega)
  have hpl : Pl.planR 2 s n key num = ([Pl.evT n (tx + 1) te, Pl.evK n tx key], 0) := by simp [Pl.planR, hr, hf, hk32, hta, h8, hx]
  rw [hpl, ← hadd] at hQ
  generalize s.serial = ser at *
  generalize hat : findI s.tens n = at_ at *
  clear hpl
  cbv
  repeat ((first | refine r_true hE (y_eql hE rfl) ?_ | refine r_false hE (n_eql hE (by decide)) ?_ | refine r_true hE (rfl) ?_ | refine r_false hE (rfl) ?_ | refine use_fun hE h1 rfl rfl ?_ | refine use_fun hE h2 rfl rfl ?_ | refine r_false hE (n_lss hE hf) ?_ | refine r_row hE h0 rJ ?_ | refine r_false hE (n_neq hE (show slen key = 32 by have e : slen key = ((key.size : Nat) : Int) := lk; omega)) ?_ | refine r_false hE (n_eql hE (show ¬ llen KS = 8 by have e : llen KS = ((ks.length : Nat) : Int) := lK; omega)) ?_ | refine r_false hE (n_eql hE hx) ?_); cbv)
  exact (hQ _ _ _ rfl rfl rfl).1
theorem rplan3_f : Fun Try.prog 29 [fI .i64 3, stV s, fS n, fS key, fI .i64 num] (plV (Pl.planR 3 s n key num)) := by
  refine fun_of lay_ok Try.call29 Try.func29 rfl ?_
  rintro A ⟨ar, cmp, conj, ne0, ge0, conv, slen, scmp, cat, catok, sat, sin, ssub, ssin, llen, row, lsub, lsin, lset, lapp, lzero, room, roomz, ifb, pcall, call, draw, other, mki, asrt, inv⟩ Q hE hQ
  have h1 := f_rright hs
  have h2 := f_rfind hs n
  have h3 := f_rword n hn
  have h4 := f_rkey hs n num
  have lX : llen (s.tens.map Vw.tenT) = s.tens.length := (e_llen hE _).trans (by simp)
  unfold Vw.stV at h1 h2 h4 ⊢
  have lk : slen key = key.size := e_slen hE key
  have rX : ∀ (i : Nat) (hi : i < s.tens.length), (s.tens.map Vw.tenT)[i]? = some (Vw.tenT s.tens[i]) := fun i hi => by simp [hi]
  generalize s.tens.map Vw.tenT = X at *
  cases hr : Rn.right s with
  | false =>
    rw [hr] at h1
    have hpl : Pl.planR 3 s n key num = ([], 7) := by simp [Pl.planR, hr]
    rw [hpl] at hQ
    generalize s.serial = ser at *
    generalize findI s.tens n = at_ at *
    cbv
    repeat ((first | refine r_true hE (y_eql hE rfl) ?_ | refine r_false hE (n_eql hE (by decide)) ?_ | refine r_true hE (rfl) ?_ | refine r_false hE (rfl) ?_ | refine use_fun hE h1 rfl rfl ?_ | refine use_fun hE h2 rfl rfl ?_); cbv)
    exact (hQ _ _ _ rfl rfl rfl).1
  | true =>
  rw [hr] at h1
  by_cases hf : findI s.tens n < 0
  case pos =>
    have hpl : Pl.planR 3 s n key num = ([], 6) := by simp [Pl.planR, hr, hf]
    rw [hpl] at hQ
    generalize s.serial = ser at *
    generalize hat : findI s.tens n = at_ at *
    clear hpl
    cbv
    repeat ((first | refine r_true hE (y_eql hE rfl) ?_ | refine r_false hE (n_eql hE (by decide)) ?_ | refine r_true hE (rfl) ?_ | refine r_false hE (rfl) ?_ | refine use_fun hE h1 rfl rfl ?_ | refine use_fun hE h2 rfl rfl ?_ | refine r_true hE (y_lss hE hf) ?_); cbv)
    exact (hQ _ _ _ rfl rfl rfl).1
  obtain ⟨i, hi, hfi, hta, hname, he0, he1, hx0, hx1⟩ := ten_there hr hf
  have rI := rX i hi
  have lK : llen ((s.tens[i].keys).map Vw.keyT) = s.tens[i].keys.length := (e_llen hE _).trans (by simp)
  have lmax : (s.tens[i].keys.length : Int) ≤ 9223372036854775807 := by have := (hs.ten _ (List.getElem_mem hi)).keys; unfold maxLen at this; omega
  have lL := fun (k : Nat) (hk : k < s.tens[i].keys.length) (hl : s.tens[i].keys.length = k + 1) => newRes_last hi hfi hk hl
  have lM := fun (hz : s.tens[i].keys.length = 0) => keyRes_no (num := num) hi hfi (by rw [List.eq_nil_of_length_eq_zero hz]; rfl)
  have rK : ∀ (k : Nat) (hk : k < s.tens[i].keys.length), (s.tens[i].keys.map Vw.keyT)[k]? = some [.flat (.int .i64 s.tens[i].keys[k].num), .flat (.string s.tens[i].keys[k].txt)] := fun k hk => by simp [hk, Vw.keyT]
  have h0 : 0 ≤ findI s.tens n := by omega
  have rJ : X[(findI s.tens n).toNat]? = some (Vw.tenT s.tens[i]) := by rw [hfi]; exact rI
  clear rI
  generalize s.tens[i] = t at *
  obtain ⟨tn, te, tx, ks⟩ := t
  dsimp only at *
  unfold Vw.tenT at rJ
  dsimp only at rJ
  have lN : llen (ks.map Vw.keyT) = llen (ks.map Vw.keyT) := rfl
  generalize ks.map Vw.keyT = KS at *
  cases hm : (keyRes s n num).2 with
  | false =>
    rw [hm] at h4
    have hpl : Pl.planR 3 s n key num = ([], 6) := by simp [Pl.planR, hr, hf, hm]
    rw [hpl] at hQ
    generalize s.serial = ser at *
    generalize (keyRes s n num).1 = kt at *
    generalize hat : findI s.tens n = at_ at *
    clear hpl
    cbv
    repeat ((first | refine r_true hE (y_eql hE rfl) ?_ | refine r_false hE (n_eql hE (by decide)) ?_ | refine r_true hE (rfl) ?_ | refine r_false hE (rfl) ?_ | refine use_fun hE h1 rfl rfl ?_ | refine use_fun hE h2 rfl rfl ?_ | refine r_false hE (n_lss hE hf) ?_ | refine r_row hE h0 rJ ?_ | refine use_fun hE h4 rfl rfl ?_); cbv)
    exact (hQ _ _ _ rfl rfl rfl).1
  | true =>
  rw [hm] at h4
  have hpos : 0 < ks.length := by
    rcases Nat.eq_zero_or_pos ks.length with hz | hz
    · rw [lM hz] at hm; cases hm
    · exact hz
  have hnew := lL (ks.length - 1) (by omega) (by omega)
  have rL := rK (ks.length - 1) (by omega)
  have hsub : ar .sub .i64 (llen KS) 1 = ((ks.length - 1 : Nat) : Int) := by have e : llen KS = ((ks.length : Nat) : Int) := lK; have h8 : (ks.length : Int) ≤ 9223372036854775807 := lmax; exact (e_sub hE (by omega) (by omega)).trans (by omega)
  generalize ks[ks.length - 1] = kl at *
  obtain ⟨kn, ktx⟩ := kl
  dsimp only at *
  have g0 : 0 ≤ ar .sub .i64 (llen KS) 1 := by rw [hsub]; omega
  have g1 : KS[(ar .sub .i64 (llen KS) 1).toNat]? = some [.flat (.int .i64 kn), .flat (.string ktx)] := by rw [hsub]; exact rL
  have hnn : (newRes s n).1.num = kn := by rw [hnew]
  by_cases hx : kn = num
  case pos =>
    have hpl : Pl.planR 3 s n key num = ([], 7) := by simp [Pl.planR, hr, hf, hm, hnn, hx]
    rw [hpl] at hQ
    generalize s.serial = ser at *
    generalize (keyRes s n num).1 = kt at *
    generalize hat : findI s.tens n = at_ at *
    clear hpl
    cbv
    repeat ((first | refine r_true hE (y_eql hE rfl) ?_ | refine r_false hE (n_eql hE (by decide)) ?_ | refine r_true hE (rfl) ?_ | refine r_false hE (rfl) ?_ | refine use_fun hE h1 rfl rfl ?_ | refine use_fun hE h2 rfl rfl ?_ | refine r_false hE (n_lss hE hf) ?_ | refine r_row hE h0 rJ ?_ | refine use_fun hE h4 rfl rfl ?_ | refine r_row hE g0 g1 ?_ | refine r_true hE (y_eql hE hx) ?_); cbv)
    exact (hQ _ _ _ rfl rfl rfl).1
  have hpl : Pl.planR 3 s n key num = ([Pl.evD n num], 0) := by simp [Pl.planR, hr, hf, hm, hnn, hx]
  rw [hpl] at hQ
  generalize s.serial = ser at *
  generalize (keyRes s n num).1 = kt at *
  generalize hat : findI s.tens n = at_ at *
  clear hpl
  cbv
  repeat ((first | refine r_true hE (y_eql hE rfl) ?_ | refine r_false hE (n_eql hE (by decide)) ?_ | refine r_true hE (rfl) ?_ | refine r_false hE (rfl) ?_ | refine use_fun hE h1 rfl rfl ?_ | refine use_fun hE h2 rfl rfl ?_ | refine r_false hE (n_lss hE hf) ?_ | refine r_row hE h0 rJ ?_ | refine use_fun hE h4 rfl rfl ?_ | refine r_row hE g0 g1 ?_ | refine r_false hE (n_eql hE hx) ?_); cbv)
  exact (hQ _ _ _ rfl rfl rfl).1
theorem rplan4_f : Fun Try.prog 29 [fI .i64 4, stV s, fS n, fS key, fI .i64 num] (plV (Pl.planR 4 s n key num)) := by
  refine fun_of lay_ok Try.call29 Try.func29 rfl ?_
  rintro A ⟨ar, cmp, conj, ne0, ge0, conv, slen, scmp, cat, catok, sat, sin, ssub, ssin, llen, row, lsub, lsin, lset, lapp, lzero, room, roomz, ifb, pcall, call, draw, other, mki, asrt, inv⟩ Q hE hQ
  have h1 := f_rright hs
  have h2 := f_rfind hs n
  have h3 := f_rword n hn
  have h4 := f_rkey hs n num
  have lX : llen (s.tens.map Vw.tenT) = s.tens.length := (e_llen hE _).trans (by simp)
  unfold Vw.stV at h1 h2 h4 ⊢
  have lk : slen key = key.size := e_slen hE key
  have rX : ∀ (i : Nat) (hi : i < s.tens.length), (s.tens.map Vw.tenT)[i]? = some (Vw.tenT s.tens[i]) := fun i hi => by simp [hi]
  generalize s.tens.map Vw.tenT = X at *
  cases hr : Rn.right s with
  | false =>
    rw [hr] at h1
    have hpl : Pl.planR 4 s n key num = ([], 7) := by simp [Pl.planR, hr]
    rw [hpl] at hQ
    generalize s.serial = ser at *
    generalize findI s.tens n = at_ at *
    cbv
    repeat ((first | refine r_true hE (y_eql hE rfl) ?_ | refine r_false hE (n_eql hE (by decide)) ?_ | refine r_true hE (rfl) ?_ | refine r_false hE (rfl) ?_ | refine use_fun hE h1 rfl rfl ?_ | refine use_fun hE h2 rfl rfl ?_); cbv)
    exact (hQ _ _ _ rfl rfl rfl).1
  | true =>
  rw [hr] at h1
  by_cases hf : findI s.tens n < 0
  case pos =>
    have hpl : Pl.planR 4 s n key num = ([], 6) := by simp [Pl.planR, hr, hf]
    rw [hpl] at hQ
    generalize s.serial = ser at *
    generalize hat : findI s.tens n = at_ at *
    clear hpl
    cbv
    repeat ((first | refine r_true hE (y_eql hE rfl) ?_ | refine r_false hE (n_eql hE (by decide)) ?_ | refine r_true hE (rfl) ?_ | refine r_false hE (rfl) ?_ | refine use_fun hE h1 rfl rfl ?_ | refine use_fun hE h2 rfl rfl ?_ | refine r_true hE (y_lss hE hf) ?_); cbv)
    exact (hQ _ _ _ rfl rfl rfl).1
  obtain ⟨i, hi, hfi, hta, hname, he0, he1, hx0, hx1⟩ := ten_there hr hf
  have rI := rX i hi
  have lK : llen ((s.tens[i].keys).map Vw.keyT) = s.tens[i].keys.length := (e_llen hE _).trans (by simp)
  have lmax : (s.tens[i].keys.length : Int) ≤ 9223372036854775807 := by have := (hs.ten _ (List.getElem_mem hi)).keys; unfold maxLen at this; omega
  have lL := fun (k : Nat) (hk : k < s.tens[i].keys.length) (hl : s.tens[i].keys.length = k + 1) => newRes_last hi hfi hk hl
  have lM := fun (hz : s.tens[i].keys.length = 0) => keyRes_no (num := num) hi hfi (by rw [List.eq_nil_of_length_eq_zero hz]; rfl)
  have rK : ∀ (k : Nat) (hk : k < s.tens[i].keys.length), (s.tens[i].keys.map Vw.keyT)[k]? = some [.flat (.int .i64 s.tens[i].keys[k].num), .flat (.string s.tens[i].keys[k].txt)] := fun k hk => by simp [hk, Vw.keyT]
  have h0 : 0 ≤ findI s.tens n := by omega
  have rJ : X[(findI s.tens n).toNat]? = some (Vw.tenT s.tens[i]) := by rw [hfi]; exact rI
  clear rI
  generalize s.tens[i] = t at *
  obtain ⟨tn, te, tx, ks⟩ := t
  dsimp only at *
  unfold Vw.tenT at rJ
  dsimp only at rJ
  have lN : llen (ks.map Vw.keyT) = llen (ks.map Vw.keyT) := rfl
  generalize ks.map Vw.keyT = KS at *
  by_cases hx : te = 1099511627776
  case pos =>
    have hpl : Pl.planR 4 s n key num = ([], 3) := by simp [Pl.planR, hr, hf, hta, hx]
    rw [hpl] at hQ
    generalize s.serial = ser at *
    generalize hat : findI s.tens n = at_ at *
    clear hpl
    cbv
    repeat ((first | refine r_true hE (y_eql hE rfl) ?_ | refine r_false hE (n_eql hE (by decide)) ?_ | refine r_true hE (rfl) ?_ | refine r_false hE (rfl) ?_ | refine use_fun hE h1 rfl rfl ?_ | refine use_fun hE h2 rfl rfl ?_ | refine r_false hE (n_lss hE hf) ?_ | refine r_row hE h0 rJ ?_ | refine r_true hE (y_eql hE hx) ?_); cbv)
    exact (hQ _ _ _ rfl rfl rfl).1
  have hadd : ar .add .i64 te 1 = te + 1 := e_add hE (by omega) (by omega)
  have hpl : Pl.planR 4 s n key num = ([Pl.evT n tx (te + 1)], 0) := by simp [Pl.planR, hr, hf, hta, hx]
  rw [hpl, ← hadd] at hQ
  generalize s.serial = ser at *
  generalize hat : findI s.tens n = at_ at *
  clear hpl
  cbv
  repeat ((first | refine r_true hE (y_eql hE rfl) ?_ | refine r_false hE (n_eql hE (by decide)) ?_ | refine r_true hE (rfl) ?_ | refine r_false hE (rfl) ?_ | refine use_fun hE h1 rfl rfl ?_ | refine use_fun hE h2 rfl rfl ?_ | refine r_false hE (n_lss hE hf) ?_ | refine r_row hE h0 rJ ?_ | refine r_false hE (n_eql hE hx) ?_); cbv)
  exact (hQ _ _ _ rfl rfl rfl).1
theorem rplan5_f : Fun Try.prog 29 [fI .i64 5, stV s, fS n, fS key, fI .i64 num] (plV (Pl.planR 5 s n key num)) := by
  refine fun_of lay_ok Try.call29 Try.func29 rfl ?_
  rintro A ⟨ar, cmp, conj, ne0, ge0, conv, slen, scmp, cat, catok, sat, sin, ssub, ssin, llen, row, lsub, lsin, lset, lapp, lzero, room, roomz, ifb, pcall, call, draw, other, mki, asrt, inv⟩ Q hE hQ
  have h1 := f_rright hs
  have h2 := f_rfind hs n
  have h3 := f_rword n hn
  have h4 := f_rkey hs n num
  have lX : llen (s.tens.map Vw.tenT) = s.tens.length := (e_llen hE _).trans (by simp)
  unfold Vw.stV at h1 h2 h4 ⊢
  have lk : slen key = key.size := e_slen hE key
  have rX : ∀ (i : Nat) (hi : i < s.tens.length), (s.tens.map Vw.tenT)[i]? = some (Vw.tenT s.tens[i]) := fun i hi => by simp [hi]
  generalize s.tens.map Vw.tenT = X at *
  cases hr : Rn.right s with
  | false =>
    rw [hr] at h1
    have hpl : Pl.planR 5 s n key num = ([], 7) := by simp [Pl.planR, hr]
    rw [hpl] at hQ
    generalize s.serial = ser at *
    generalize findI s.tens n = at_ at *
    cbv
    repeat ((first | refine r_true hE (y_eql hE rfl) ?_ | refine r_false hE (n_eql hE (by decide)) ?_ | refine r_true hE (rfl) ?_ | refine r_false hE (rfl) ?_ | refine use_fun hE h1 rfl rfl ?_ | refine use_fun hE h2 rfl rfl ?_); cbv)
    exact (hQ _ _ _ rfl rfl rfl).1
  | true =>
  rw [hr] at h1
  by_cases hf : findI s.tens n < 0
  case pos =>
    have hpl : Pl.planR 5 s n key num = ([], 6) := by simp [Pl.planR, hr, hf]
    rw [hpl] at hQ
    generalize s.serial = ser at *
    generalize hat : findI s.tens n = at_ at *
    clear hpl
    cbv
    repeat ((first | refine r_true hE (y_eql hE rfl) ?_ | refine r_false hE (n_eql hE (by decide)) ?_ | refine r_true hE (rfl) ?_ | refine r_false hE (rfl) ?_ | refine use_fun hE h1 rfl rfl ?_ | refine use_fun hE h2 rfl rfl ?_ | refine r_true hE (y_lss hE hf) ?_); cbv)
    exact (hQ _ _ _ rfl rfl rfl).1
  obtain ⟨i, hi, hfi, hta, hname, he0, he1, hx0, hx1⟩ := ten_there hr hf
  have rI := rX i hi
  have lK : llen ((s.tens[i].keys).map Vw.keyT) = s.tens[i].keys.length := (e_llen hE _).trans (by simp)
  have lmax : (s.tens[i].keys.length : Int) ≤ 9223372036854775807 := by have := (hs.ten _ (List.getElem_mem hi)).keys; unfold maxLen at this; omega
  have lL := fun (k : Nat) (hk : k < s.tens[i].keys.length) (hl : s.tens[i].keys.length = k + 1) => newRes_last hi hfi hk hl
  have lM := fun (hz : s.tens[i].keys.length = 0) => keyRes_no (num := num) hi hfi (by rw [List.eq_nil_of_length_eq_zero hz]; rfl)
  have rK : ∀ (k : Nat) (hk : k < s.tens[i].keys.length), (s.tens[i].keys.map Vw.keyT)[k]? = some [.flat (.int .i64 s.tens[i].keys[k].num), .flat (.string s.tens[i].keys[k].txt)] := fun k hk => by simp [hk, Vw.keyT]
  have h0 : 0 ≤ findI s.tens n := by omega
  have rJ : X[(findI s.tens n).toNat]? = some (Vw.tenT s.tens[i]) := by rw [hfi]; exact rI
  clear rI
  generalize s.tens[i] = t at *
  obtain ⟨tn, te, tx, ks⟩ := t
  dsimp only at *
  unfold Vw.tenT at rJ
  dsimp only at rJ
  have lN : llen (ks.map Vw.keyT) = llen (ks.map Vw.keyT) := rfl
  generalize ks.map Vw.keyT = KS at *
  by_cases h8 : ks.length = 0
  case pos =>
    have hpl : Pl.planR 5 s n key num = ([], 6) := by simp [Pl.planR, hr, hf, hta, h8]
    rw [hpl] at hQ
    generalize s.serial = ser at *
    generalize hat : findI s.tens n = at_ at *
    clear hpl
    cbv
    repeat ((first | refine r_true hE (y_eql hE rfl) ?_ | refine r_false hE (n_eql hE (by decide)) ?_ | refine r_true hE (rfl) ?_ | refine r_false hE (rfl) ?_ | refine use_fun hE h1 rfl rfl ?_ | refine use_fun hE h2 rfl rfl ?_ | refine r_false hE (n_lss hE hf) ?_ | refine r_row hE h0 rJ ?_ | refine r_true hE (y_eql hE (show llen KS = 0 by have e : llen KS = ((ks.length : Nat) : Int) := lK; omega)) ?_); cbv)
    exact (hQ _ _ _ rfl rfl rfl).1
  by_cases hx : s.serial = 1099511627776
  case pos =>
    have hpl : Pl.planR 5 s n key num = ([], 3) := by simp [Pl.planR, hr, hf, hta, h8, hx]
    rw [hpl] at hQ
    generalize s.serial = ser at *
    generalize hat : findI s.tens n = at_ at *
    clear hpl
    cbv
    repeat ((first | refine r_true hE (y_eql hE rfl) ?_ | refine r_false hE (n_eql hE (by decide)) ?_ | refine r_true hE (rfl) ?_ | refine r_false hE (rfl) ?_ | refine use_fun hE h1 rfl rfl ?_ | refine use_fun hE h2 rfl rfl ?_ | refine r_false hE (n_lss hE hf) ?_ | refine r_row hE h0 rJ ?_ | refine r_false hE (n_eql hE (show ¬ llen KS = 0 by have e : llen KS = ((ks.length : Nat) : Int) := lK; omega)) ?_ | refine r_true hE (y_eql hE hx) ?_); cbv)
    exact (hQ _ _ _ rfl rfl rfl).1
  have hsr := Rn.fromB_iff.1 (Rn.right_parts hr).2.1
  have hadd : ar .add .i64 s.serial 1 = s.serial + 1 := e_add hE (by omega) (by omega)
  have hpl : Pl.planR 5 s n key num = ([Pl.evS (s.serial + 1)], 0) := by simp [Pl.planR, hr, hf, hta, h8, hx]
  rw [hpl, ← hadd] at hQ
  generalize s.serial = ser at *
  generalize hat : findI s.tens n = at_ at *
  clear hpl
  cbv
  repeat ((first | refine r_true hE (y_eql hE rfl) ?_ | refine r_false hE (n_eql hE (by decide)) ?_ | refine r_true hE (rfl) ?_ | refine r_false hE (rfl) ?_ | refine use_fun hE h1 rfl rfl ?_ | refine use_fun hE h2 rfl rfl ?_ | refine r_false hE (n_lss hE hf) ?_ | refine r_row hE h0 rJ ?_ | refine r_false hE (n_eql hE (show ¬ llen KS = 0 by have e : llen KS = ((ks.length : Nat) : Int) := lK; omega)) ?_ | refine r_false hE (n_eql hE hx) ?_); cbv)
  exact (hQ _ _ _ rfl rfl rfl).1
end
end Go.Proofs.Ytgcgilcalmefgaa
namespace Go.Proofs.Ytgcgilcalmefgaa
open Go Go.RowKit
set_option linter.unusedVariables false
set_option linter.unusedSimpArgs false
set_option linter.unusedSectionVars false
set_option maxRecDepth 100000
open Ab Vw
theorem sz_zero : SzS Rn.zeroS := ⟨Nat.zero_le _, fun t h => by cases h⟩
theorem image_sz {s : Rn.S} (hs : SzS s) : SzE (Pl.image s) := by
  unfold Pl.image
  by_cases h : Rn.right s = true
  · rw [if_pos h]
    intro e he
    unfold Pl.imageL at he
    rcases List.mem_append.1 he with he | he
    · obtain ⟨t, ht, he⟩ := List.mem_flatMap.1 he
      unfold Pl.tenEs Pl.keyEs at he
      rcases List.mem_cons.1 he with rfl | he
      · exact ⟨(hs.ten t ht).name, Nat.zero_le _⟩
      · obtain ⟨k, hk, rfl⟩ := List.mem_map.1 he
        exact ⟨(hs.ten t ht).name, (hs.ten t ht).txt k hk⟩
    · obtain rfl : e = Pl.evS s.serial := by simpa using he
      exact ⟨Nat.zero_le _, Nat.zero_le _⟩
  · rw [if_neg h]
    intro e he; cases he
theorem image_max {s : Rn.S} : (Pl.image s).length ≤ maxLen := by
  by_cases h : Rn.right s = true
  · have := Pl.image_len h; unfold maxLen; omega
  · unfold Pl.image; rw [if_neg h]; exact Nat.zero_le _
theorem planR_sz (op : Nat) (s : Rn.S) {n key : ByteArray} (num : Int) (hn : n.size ≤ maxLen) (hk : key.size ≤ maxLen) : SzE (Pl.planR op s n key num).1 ∧ (Pl.planR op s n key num).1.length ≤ 2 := by
  have nil : SzE [] := fun e h => by cases h
  have one : ∀ e : Rn.E, (e.ten.size ≤ maxLen ∧ e.txt.size ≤ maxLen) → SzE [e] := fun e he x hx => by obtain rfl : x = e := (by simpa using hx); exact he
  have two : ∀ e f : Rn.E, (e.ten.size ≤ maxLen ∧ e.txt.size ≤ maxLen) → (f.ten.size ≤ maxLen ∧ f.txt.size ≤ maxLen) → SzE [e, f] := fun e f he hf x hx => by
    rcases (show x = e ∨ x = f by simpa using hx) with rfl | rfl
    · exact he
    · exact hf
  have z : (⟨#[]⟩ : ByteArray).size ≤ maxLen := Nat.zero_le _
  unfold Pl.planR
  repeat' split
  all_goals first
    | exact ⟨nil, Nat.zero_le _⟩
    | exact ⟨one _ ⟨hn, z⟩, Nat.le_succ 1⟩
    | exact ⟨one _ ⟨z, z⟩, Nat.le_succ 1⟩
    | exact ⟨two _ _ ⟨hn, z⟩ ⟨hn, hk⟩, Nat.le_refl _⟩
theorem image_law (s : Rn.S) (hs : SzS s) : Fun Try.prog 6 [stV s] (fB true) := by
  refine fun_of lay_ok Try.call6 Try.func6 rfl ?_
  rintro A ⟨ar, cmp, conj, ne0, ge0, conv, slen, scmp, cat, catok, sat, sin, ssub, ssin, llen, row, lsub, lsin, lset, lapp, lzero, room, roomz, ifb, pcall, call, draw, other, mki, asrt, inv⟩ Q hE hQ
  have h1 := f_great hs
  have h2 := f_right hs
  have h3 := f_image hs
  have h4 := f_all sz_zero (Nat.zero_le _) (image_sz hs) image_max
  have h5 := f_same hs
  have hw := works40_f
  cases hg : greatS s with
  | true =>
    rw [hg] at h1
    unfold Vw.stV at h1 ⊢
    generalize s.tens.map Vw.tenT = X at *
    generalize s.serial = ser at *
    cbv
    repeat ((first | refine r_true hE (rfl) ?_ | refine r_false hE (rfl) ?_ | refine use_fun hE h1 rfl rfl ?_ | refine use_fun hE hw rfl rfl ?_); cbv)
    exact (hQ _ _ _ rfl rfl rfl).1
  | false =>
  rw [hg] at h1
  cases hr : Rn.right s with
  | false =>
    rw [hr] at h2
    unfold Vw.stV at h1 h2 ⊢
    generalize s.tens.map Vw.tenT = X at *
    generalize s.serial = ser at *
    cbv
    repeat ((first | refine r_true hE (rfl) ?_ | refine r_false hE (rfl) ?_ | refine use_fun hE h1 rfl rfl ?_ | refine use_fun hE h2 rfl rfl ?_ | refine use_fun hE hw rfl rfl ?_); cbv)
    exact (hQ _ _ _ rfl rfl rfl).1
  | true =>
  rw [hr] at h2
  rw [Pl.image_run hr] at h4
  have hl := Pl.image_len hr
  have lI : llen ((Pl.image s).map Vw.evT) = (((Pl.image s).length : Nat) : Int) := (e_llen hE _).trans (by simp)
  have hl2 : llen ((Pl.image s).map Vw.evT) ≤ 145 := by rw [lI]; omega
  change Fun _ _ [_, _] (.tup [stV s, fI .i64 0]) at h4
  unfold Vw.evsV at h3 h4
  generalize (Pl.image s).map Vw.evT = I at *
  unfold Vw.stV at h1 h2 h3 h4 h5 ⊢
  unfold Rn.zeroS at h4
  generalize s.tens.map Vw.tenT = X at *
  generalize s.serial = ser at *
  clear lI
  cbv
  repeat ((first | refine r_true hE (rfl) ?_ | refine r_false hE (rfl) ?_ | refine r_true hE (y_eql hE rfl) ?_ | refine r_true hE (y_leq hE hl2) ?_ | refine use_fun hE h1 rfl rfl ?_ | refine use_fun hE h2 rfl rfl ?_ | refine use_fun hE h3 rfl rfl ?_ | refine use_fun hE h4 rfl rfl ?_ | refine use_fun hE h5 rfl rfl ?_ | refine use_fun hE hw rfl rfl ?_); cbv)
  exact (hQ _ _ _ rfl rfl rfl).1
theorem tells_law (s : Rn.S) (hs : SzS s) (a b : ByteArray) (num : Int) (ha : a.size ≤ maxLen) (hb : b.size ≤ maxLen) : Fun Try.prog 7 [stV s, .agg [fS a, fS b], fI .i64 num] (fB true) := by
  refine fun_of lay_ok Try.call7 Try.func7 rfl ?_
  rintro A ⟨ar, cmp, conj, ne0, ge0, conv, slen, scmp, cat, catok, sat, sin, ssub, ssin, llen, row, lsub, lsin, lset, lapp, lzero, room, roomz, ifb, pcall, call, draw, other, mki, asrt, inv⟩ Q hE hQ
  have h1 := f_great hs
  have hw := works40_f
  cases hg : greatS s with
  | true =>
    rw [hg] at h1
    unfold Vw.stV at h1 ⊢
    generalize s.tens.map Vw.tenT = X at *
    generalize s.serial = ser at *
    cbv
    repeat ((first | refine r_true hE (rfl) ?_ | refine r_false hE (rfl) ?_ | refine use_fun hE h1 rfl rfl ?_ | refine use_fun hE hw rfl rfl ?_); cbv)
    exact (hQ _ _ _ rfl rfl rfl).1
  | false =>
  rw [hg] at h1
  have la : slen a = ((a.size : Nat) : Int) := e_slen hE a
  by_cases h100 : 100 < a.size
  · have hl : (100 : Int) < slen a := by omega
    unfold Vw.stV at h1 ⊢
    generalize s.tens.map Vw.tenT = X at *
    generalize s.serial = ser at *
    cbv
    repeat ((first | refine r_true hE (rfl) ?_ | refine r_false hE (rfl) ?_ | refine r_true hE (y_gtr hE hl) ?_ | refine use_fun hE h1 rfl rfl ?_ | refine use_fun hE hw rfl rfl ?_); cbv)
    exact (hQ _ _ _ rfl rfl rfl).1
  have hl : ¬ (100 : Int) < slen a := by omega
  clear la
  have hI := f_image hs
  have hJ := f_rimage hs
  have hK := f_events (image_sz hs) image_max
  have d1 := does1_f hs num ha hb
  have d2 := does2_f hs num ha hb
  have d3 := does3_f hs num ha hb
  have d4 := does4_f hs num ha hb
  have d5 := does5_f hs num ha hb
  have r1 := rplan1_f hs num ha hb
  have r2 := rplan2_f hs num ha hb
  have r3 := rplan3_f hs num ha hb
  have r4 := rplan4_f hs num ha hb
  have r5 := rplan5_f hs num ha hb
  have hE' : ∀ op, Fun Try.prog 30 [evsV (Pl.planR op s a b num).1, evsV (Pl.planR op s a b num).1] (fB true) := fun op =>
    f_events (planR_sz op s num ha hb).1 (Nat.le_trans (planR_sz op s num ha hb).2 (by decide))
  have e1 := hE' 1
  have e2 := hE' 2
  have e3 := hE' 3
  have e4 := hE' 4
  have e5 := hE' 5
  clear hE'
  unfold Vw.plV Vw.evsV at *
  generalize (Pl.planR 1 s a b num).1.map Vw.evT = R1 at *
  generalize (Pl.planR 2 s a b num).1.map Vw.evT = R2 at *
  generalize (Pl.planR 3 s a b num).1.map Vw.evT = R3 at *
  generalize (Pl.planR 4 s a b num).1.map Vw.evT = R4 at *
  generalize (Pl.planR 5 s a b num).1.map Vw.evT = R5 at *
  generalize (Pl.planR 1 s a b num).2 = x1 at *
  generalize (Pl.planR 2 s a b num).2 = x2 at *
  generalize (Pl.planR 3 s a b num).2 = x3 at *
  generalize (Pl.planR 4 s a b num).2 = x4 at *
  generalize (Pl.planR 5 s a b num).2 = x5 at *
  generalize (Pl.image s).map Vw.evT = I at *
  unfold Vw.stV at h1 hI hJ d1 d2 d3 d4 d5 r1 r2 r3 r4 r5 ⊢
  generalize s.tens.map Vw.tenT = X at *
  generalize s.serial = ser at *
  cbv
  repeat ((first | refine r_true hE (rfl) ?_ | refine r_false hE (rfl) ?_ | refine r_false hE (n_gtr hE hl) ?_ | refine use_fun hE h1 rfl rfl ?_); cbv)
  obtain ⟨J, hJJ⟩ : ∃ J : Nat → Int, J = fun j : Nat => (j : Int) := ⟨_, rfl⟩
  refine use_for hE lay_ok 2 (fun j => [(7, fI .i64 (J j))]) (fun j => []) (fun j => 1 ≤ j ∧ j ≤ 6) (fun j => 6 - j) 1 (by omega) ?_ ?_
  · cbv
    subst hJJ
    simp
  intro j hj Q' hN hR' hX'
  cbv
  obtain ⟨hj1, hj6⟩ := hj
  rcases (show j = 1 ∨ j = 2 ∨ j = 3 ∨ j = 4 ∨ j = 5 ∨ j = 6 by omega) with rfl | rfl | rfl | rfl | rfl | rfl
  · have hj : J 1 = 1 := by rw [hJJ]; rfl
    have hj2 : J 2 = 2 := by rw [hJJ]; rfl
    generalize J 1 = jj at *
    subst hj
    repeat ((first | refine r_true hE (y_leq hE (by decide)) ?_ | refine use_fun hE d1 rfl rfl ?_ | refine use_fun hE r1 rfl rfl ?_ | refine use_fun hE e1 rfl rfl ?_ | refine r_false hE (n_neq hE rfl) ?_ | refine r_true hE (rfl) ?_ | refine r_false hE (rfl) ?_); cbv)
    have ha : ar .add .i64 1 1 = 2 := e_add hE (by decide) (by decide)
    refine hN _ 2 (by omega) (by omega) ?_
    cbv
    simp [hj2, ha]
  · have hj : J 2 = 2 := by rw [hJJ]; rfl
    have hj2 : J 3 = 3 := by rw [hJJ]; rfl
    generalize J 2 = jj at *
    subst hj
    repeat ((first | refine r_true hE (y_leq hE (by decide)) ?_ | refine use_fun hE d2 rfl rfl ?_ | refine use_fun hE r2 rfl rfl ?_ | refine use_fun hE e2 rfl rfl ?_ | refine r_false hE (n_neq hE rfl) ?_ | refine r_true hE (rfl) ?_ | refine r_false hE (rfl) ?_); cbv)
    have ha : ar .add .i64 2 1 = 3 := e_add hE (by decide) (by decide)
    refine hN _ 3 (by omega) (by omega) ?_
    cbv
    simp [hj2, ha]
  · have hj : J 3 = 3 := by rw [hJJ]; rfl
    have hj2 : J 4 = 4 := by rw [hJJ]; rfl
    generalize J 3 = jj at *
    subst hj
    repeat ((first | refine r_true hE (y_leq hE (by decide)) ?_ | refine use_fun hE d3 rfl rfl ?_ | refine use_fun hE r3 rfl rfl ?_ | refine use_fun hE e3 rfl rfl ?_ | refine r_false hE (n_neq hE rfl) ?_ | refine r_true hE (rfl) ?_ | refine r_false hE (rfl) ?_); cbv)
    have ha : ar .add .i64 3 1 = 4 := e_add hE (by decide) (by decide)
    refine hN _ 4 (by omega) (by omega) ?_
    cbv
    simp [hj2, ha]
  · have hj : J 4 = 4 := by rw [hJJ]; rfl
    have hj2 : J 5 = 5 := by rw [hJJ]; rfl
    generalize J 4 = jj at *
    subst hj
    repeat ((first | refine r_true hE (y_leq hE (by decide)) ?_ | refine use_fun hE d4 rfl rfl ?_ | refine use_fun hE r4 rfl rfl ?_ | refine use_fun hE e4 rfl rfl ?_ | refine r_false hE (n_neq hE rfl) ?_ | refine r_true hE (rfl) ?_ | refine r_false hE (rfl) ?_); cbv)
    have ha : ar .add .i64 4 1 = 5 := e_add hE (by decide) (by decide)
    refine hN _ 5 (by omega) (by omega) ?_
    cbv
    simp [hj2, ha]
  · have hj : J 5 = 5 := by rw [hJJ]; rfl
    have hj2 : J 6 = 6 := by rw [hJJ]; rfl
    generalize J 5 = jj at *
    subst hj
    repeat ((first | refine r_true hE (y_leq hE (by decide)) ?_ | refine use_fun hE d5 rfl rfl ?_ | refine use_fun hE r5 rfl rfl ?_ | refine use_fun hE e5 rfl rfl ?_ | refine r_false hE (n_neq hE rfl) ?_ | refine r_true hE (rfl) ?_ | refine r_false hE (rfl) ?_); cbv)
    have ha : ar .add .i64 5 1 = 6 := e_add hE (by decide) (by decide)
    refine hN _ 6 (by omega) (by omega) ?_
    cbv
    simp [hj2, ha]
  · have hj : J 6 = 6 := by rw [hJJ]; rfl
    generalize J 6 = jj at *
    subst hj
    repeat ((first | refine r_false hE (n_leq hE (by decide)) ?_); cbv)
    refine hX' _ _ ?_
    cbv
    refine use_whole hE lay_ok rfl (by kernel_rfl) ?_
    cbv
    repeat ((first | refine use_pcall hE hI rfl rfl ?_ | refine use_pcall hE hJ rfl rfl ?_ | refine use_pcall hE hK rfl rfl ?_ | refine use_pcall hE hw rfl rfl ?_ | refine r_true hE (rfl) ?_ | refine r_false hE (rfl) ?_); cbv)
    exact (hQ _ _ _ rfl rfl rfl).1
end Go.Proofs.Ytgcgilcalmefgaa
