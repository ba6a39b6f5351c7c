/- Texts that the proof leans on. -/
import Derived.Test.YtagppjldegblhaaGreatDoorK222
import Derived.Lib.Builder
import Derived.Lib.UnsafeStr
import Derived.Shelf.RegionOpenPlain
import Derived.Laws.Externs
set_option linter.unusedVariables false
set_option linter.unusedSimpArgs false
set_option maxRecDepth 100000
set_option maxHeartbeats 4000000
namespace Go.Proofs.YtagppjldegblhaaGreatDoor
open Go Go.RowKit
open Ab
namespace Rd
def shP (r : Node × Int × Nat) : V := .tup [nodeV r.1, .agg [fI .i64 r.2.1, fI .i64 (r.2.2 : Nat)]]
def zeroC : List V := [fI .i64 0, fI .u64 0, fI .u64 0, fI .u64 0, fI .u64 0, .t (.flat (.slice none 0 0)), fI .i64 0, fI .i64 0]
def parS (s : ByteArray) : St := ⟨[fS s, .junk, .ptr 0 0, .ptr 1 0, .junk, .junk, .junk, .junk, .junk, .junk, .junk, .junk, .junk, .junk, .junk, .junk, .junk, .junk, .junk, .junk, .junk, .junk, .junk, .junk, .junk, .junk, .junk], [some (.box 91 zeroC), some (.box 43 [fI .i64 0, fI .i64 0])], 0⟩
def parQ (s : ByteArray) (v : V) (e : Ex) (t : St) : Prop := match e with
 | .ret => ∃ r v', resV lay Tryz.f92.results.toList t = some r ∧ r.frz t.heap = some v' ∧ nrm v' = v
 | .normal => s.size ≤ 256 ∧ t.le (parS s)
 | _ => False
def parQ2 (s : ByteArray) (v : V) (e : Ex) (t : St) : Prop := e = .ret ∧ ∃ r v', resV lay Tryz.f92.results.toList t = some r ∧ r.frz t.heap = some v' ∧ nrm v' = v
theorem zero_v : nodeV Rx.zero = .agg [fI .i64 0, fI .u64 0, fI .u64 0, fI .u64 0, fI .u64 0, .t (.slc []), fI .i64 0, fI .i64 0] := by
 unfold nodeV ns Rx.zero; show nsV ⟨0, CSet.empty, nodeRows [], 0, 0⟩ = _; unfold nodeRows; rfl
theorem ptr_at {cx : Cx} {w : World} {cs : List V} {vs : Array Value} {i id : Nat} (h : VReps cx w cs vs) (hi : cs[i]? = some (.ptr id 0)) : ∃ b cap es len, vs[i]? = some (.pointer (some ⟨b, 0, none⟩)) ∧ cx.at_ id = some (.at b cap es len) := by
 have hlt : i < vs.size := by rw [h.1]; exact (List.getElem?_eq_some_iff.1 hi).1
 have := h.2 i _ vs[i] hi (Array.getElem?_eq_getElem hlt)
 cases hv : vs[i] with
 | pointer p =>
   rw [hv] at this
   cases this with
   | ptr id off b cap es len h' => exact ⟨b, cap, es, len, by rw [Array.getElem?_eq_getElem hlt, hv], h'⟩
 | _ => rw [hv] at this; cases this
def parPan (s : ByteArray) (v : V) (t : St) : Prop := ∃ (e : Int) (p : Nat), Rx.parse s.data.toList = (Rx.zero, e, p) ∧ v = faultV e (p : Nat) ∧ t.tmps[2]? = some (.ptr 0 0) ∧ t.tmps[3]? = some (.ptr 1 0) ∧ ∃ cs0 cs1, t.heap[0]? = some (some (.box 91 cs0)) ∧ cs0.length = 8 ∧ t.heap[1]? = some (some (.box 43 cs1)) ∧ cs1.length = 2
theorem par_bad {l : List UInt8} {e : Int} {p : Nat} (hl : l.length ≤ 256) (h : Rx.alt l (Rx.atom l 16) 0 = .bad e p) : Rx.parse l = (Rx.zero, e, p) := by unfold Rx.parse; rw [if_neg (by omega), h]
theorem par_ok {l : List UInt8} {n : Node} {p : Nat} (hl : l.length ≤ 256) (h : Rx.alt l (Rx.atom l 16) 0 = .ok n p) (hp : ¬ p < l.length) : Rx.parse l = (n, 0, 0) := by unfold Rx.parse; rw [if_neg (by omega), h]; exact if_neg hp
theorem par_more {l : List UInt8} {n : Node} {e : Int} {p q : Nat} (hl : l.length ≤ 256) (h : Rx.alt l (Rx.atom l 16) 0 = .ok n p) (hp : p < l.length) (h2 : (Rx.other l p : Res Node) = .bad e q) : Rx.parse l = (Rx.zero, e, q) := by unfold Rx.parse; rw [if_neg (by omega), h]; dsimp only; rw [if_pos hp, h2]
theorem fault_u {cx : Cx} {w : World} {e p : Int} {u : Value} (h : VRep cx w (faultV e p) u) : u = .iface 154 (.agg #[.int .i64 e, .int .i64 p]) := by
 unfold faultV at h
 cases h with
 | ifc t v u h =>
   cases h with
   | agg cs vs hn hc hr =>
     obtain ⟨l⟩ := vs
     match l, hn with
     | [a, b], _ =>
       have h0 := inv_flat (hr 0 _ a rfl rfl)
       have h1 := inv_flat (hr 1 _ b rfl rfl)
       rw [h0, h1]
theorem box_at {cx : Cx} {heap : List (Option Row)} {w : World} (H : HRep cx heap w) {id ty : Nat} {cs : List V} {b cap es len : Nat} (hr : heap[id]? = some (some (.box ty cs))) (hat : cx.at_ id = some (.at b cap es len)) : ∃ vs, w.heap[b]? = some (.cells vs ty (0, 0)) ∧ vs.size = cs.length := by
 have := H.row id _ hr
 cases this with
 | box ty cs b' vs hat' hbl hn hrr => rw [hat] at hat'; cases hat'; exact ⟨vs, hbl, hrr.1⟩
theorem flats {cx : Cx} {w : World} : ∀ (l : List Value), (∀ v ∈ l, oneV v = true) → ∀ (i : Nat) (c : V) (u : Value), (l.map fun v => V.t (.flat v))[i]? = some c → l.toArray[i]? = some u → VRep cx w c u := by
 intro l hl i c u h1 h2
 rw [List.getElem?_toArray] at h2
 rw [List.getElem?_map, h2] at h1
 cases h1
 exact rep_flat (hl u (List.mem_of_getElem? h2))
theorem zero_rep (cx : Cx) (w : World) (e : Int) (p : Nat) : VRep cx w (shP (Rx.zero, e, p)) (.tuple #[.agg #[.int .i64 0, .int .u64 0, .int .u64 0, .int .u64 0, .int .u64 0, .slice none 0 0, .int .i64 0, .int .i64 0], .agg #[.int .i64 e, .int .i64 (p : Nat)]]) := by
 have hv : VRep cx w (.tup [.agg zeroC, .agg [fI .i64 e, fI .i64 (p : Nat)]]) (.tuple #[.agg #[.int .i64 0, .int .u64 0, .int .u64 0, .int .u64 0, .int .u64 0, .slice none 0 0, .int .i64 0, .int .i64 0], .agg #[.int .i64 e, .int .i64 (p : Nat)]]) := by
  refine .tup _ _ rfl fun i c u h1 h2 => ?_
  match i with
  | 0 =>
    cases h1; cases h2
    exact .agg _ _ rfl (by decide) (fun i c u h1 h2 => flats [.int .i64 0, .int .u64 0, .int .u64 0, .int .u64 0, .int .u64 0, .slice none 0 0, .int .i64 0, .int .i64 0] (by decide) i c u h1 h2)
  | 1 =>
    cases h1; cases h2
    exact .agg _ _ rfl (by intro c hc; simp at hc; rcases hc with rfl | rfl <;> rfl) (fun i c u h1 h2 => flats [.int .i64 e, .int .i64 (p : Nat)] (by intro v hv; simp at hv; rcases hv with rfl | rfl <;> rfl) i c u h1 h2)
  | i + 2 => cases h1
 have := nrm_le _ _ _ _ hv
 rw [show nrm (.tup [.agg zeroC, .agg [fI .i64 e, fI .i64 (p : Nat)]]) = shP (Rx.zero, e, p) by unfold shP; rw [zero_v]; rfl] at this
 exact this
theorem parse_f (s : ByteArray) : FunS Tryz.prog 92 [fS s] shP (Rx.parse s.data.toList) := by
 refine ⟨Tryz.call92, fun G w cargs hG hT hargs => ?_⟩
 refine calls_of_wp_defers Tryz.func92 rfl ?_
 refine defer_wp lay_ok (start_rel (fn := Tryz.f92) (pan := fun _ _ => False) hG hT hargs) rfl (Q1 := parQ s (shP (Rx.parse s.data.toList))) ?_ (fun v t h => h) ?_ ?_
 · obtain ⟨E, hE⟩ : ∃ E, dom Tryz.prog ⟨w, fun _ => False, G, fun _ => none, 0, fun _ _ => False, []⟩ = E := ⟨_, rfl⟩
   rw [hE]
   have hf : ∀ id, E.free id := fun id => by subst hE; rfl
   have hQr : ∀ t r v', resV lay Tryz.f92.results.toList t = some r → r.frz t.heap = some v' → nrm v' = shP (Rx.parse s.data.toList) → parQ s (shP (Rx.parse s.data.toList)) .ret t := fun t r v' h1 h2 h3 => ⟨r, v', h1, h2, h3⟩
   have hQn : ∀ t, s.size ≤ 256 → t.le (parS s) → parQ s (shP (Rx.parse s.data.toList)) .normal t := fun t h1 h2 => ⟨h1, h2⟩
   generalize parQ s (shP (Rx.parse s.data.toList)) = Q at *
   have hbig : (256 : Int) < (s.size : Int) → Rx.parse s.data.toList = (Rx.zero, 3, 256) := fun h => by
    unfold Rx.parse; rw [if_pos (by have : s.data.toList.length = s.size := by simp
                                    omega)]
   have hsm : ¬ (256 : Int) < (s.size : Int) → s.size ≤ 256 := fun h => by omega
   have el := e_slen hE s
   cbv
   refine c_gtr hE (fun h => ?_) (fun h => ?_) <;> cbv
   · have h' : (256 : Int) < E.slen s := h
     rw [el] at h'
     exact hQr _ _ _ rfl rfl (by rw [hbig h']; unfold shP; rw [zero_v]; rfl)
   · have h' : ¬ (256 : Int) < E.slen s := h
     rw [el] at h'
     exact hQn _ (hsm h') (by cbv; repeat' first | exact trivial | rfl | constructor)
 · intro e e' t cx a w1 hne hr hq R
   cases e' with
   | ret =>
     cases e <;> first | exact hr.elim | skip
     obtain ⟨r, v', g1, g2, g3⟩ := hq
     show Leaves _ _ a.tmps _ a.defers .returning w1
     rw [R.df]
     obtain ⟨u, k1, k2⟩ := run_results (P := Tryz.prog) lay_ok R.tm (fun id r hr => R.hp.row id r (getD_row hr)) g1
     refine ⟨u, k1, u, rfl, ⟨R.kp.os, R.kp.tape, R.kp.output, R.kp.size, fun b hb => R.kp.block b hb (fun h => h)⟩, ?_⟩
     exact ((g3 ▸ nrm_le v') _ _ _ (frz_rep R.hp k2 g2)).mono (Same.refl _ _) (none_le _ _ fun b hb => R.kp.frzG R.hp (fun _ _ _ _ _ _ _ _ _ _ h => h) (fun _ _ h => h) b hb)
   | normal => cases e <;> first | exact hr.elim | exact absurd rfl hne
   | _ => exact hq.elim
 · intro t cx a w1 hq R hdef
   obtain ⟨h256, hle⟩ := hq
   obtain ⟨cx1, R1⟩ := R.loose hle
   obtain ⟨b0, cap0, es0, len0, t2, at0⟩ := ptr_at R1.tm (i := 2) rfl
   obtain ⟨b1, cap1, es1, len1, t3, at1⟩ := ptr_at R1.tm (i := 3) rfl
   have hmf : ∀ (fn : Fn) (first cap : Array Value) (w : World), (Instr.makeFunc fn first cap).run Tryz.prog w = .ok (.func fn first cap) w := fun _ _ _ _ => rfl
   refine wp_region ?_
   have hsz : a.tmps.size = 27 := R1.tm.1
   have q2 : a.tmps[2]'(by rw [hsz]; decide) = .pointer (some ⟨b0, 0, none⟩) := by
    rw [Array.getElem?_eq_getElem (by rw [hsz]; decide)] at t2; exact Option.some.inj t2
   have q3 : a.tmps[3]'(by rw [hsz]; decide) = .pointer (some ⟨b1, 0, none⟩) := by
    rw [Array.getElem?_eq_getElem (by rw [hsz]; decide)] at t3; exact Option.some.inj t3
   simp [wpOps, go_sem, hmf, q2, q3, hdef, hsz, Oper.upon_defer, Act.put, Exit.then]
   refine Or.inl (Or.inl ?_)
   have R2 := R1.again (fun i => rfl) 2 (Nat.le_refl 2) (parPan s) [{ target := .fn (.func 131) #[.pointer (some ⟨b0, 0, none⟩), .pointer (some ⟨b1, 0, none⟩)], args := #[] }] 10 (.func (.func 131) #[] #[.pointer (some ⟨b0, 0, none⟩), .pointer (some ⟨b1, 0, none⟩)])
   refine wp_mono (pwp_sound lay_ok _ _ (parQ2 s (shP (Rx.parse s.data.toList))) ?_ _ _ _ R2) fun e a2 w2 h => ?_
   · generalize hA : (⟨w, fun _ => False, G, fun i => if i < 2 then cx1.at_ i else none, 2, parPan s, [{ target := .fn (.func 131) #[.pointer (some ⟨b0, 0, none⟩), .pointer (some ⟨b1, 0, none⟩)], args := #[] }]⟩ : Run) = A1
     obtain ⟨E, hE⟩ : ∃ E, dom Tryz.prog A1 = E := ⟨_, rfl⟩
     have hf : ∀ id, 2 ≤ id → E.free id := fun id h => by subst hE hA; show (if id < 2 then cx1.at_ id else none) = none; exact if_neg (by omega)
     have hP : ∀ v t (e : Int) (p : Nat), Rx.parse s.data.toList = (Rx.zero, e, p) → v = faultV e (p : Nat) → t.tmps[2]? = some (.ptr 0 0) → t.tmps[3]? = some (.ptr 1 0) → (∃ cs0 cs1, t.heap[0]? = some (some (.box 91 cs0)) ∧ cs0.length = 8 ∧ t.heap[1]? = some (some (.box 43 cs1)) ∧ cs1.length = 2) → E.pan v t := fun v t e p h1 h2 h3 h4 h5 => by
      subst hE hA; exact ⟨by rw [h2]; rfl, e, p, h1, h2, h3, h4, h5⟩
     have hQ : ∀ t r v', resV lay Tryz.f92.results.toList t = some r → r.frz t.heap = some v' → nrm v' = shP (Rx.parse s.data.toList) → parQ2 s (shP (Rx.parse s.data.toList)) .ret t := fun t r v' h1 h2 h3 => ⟨rfl, r, v', h1, h2, h3⟩
     rw [hE]
     generalize parQ2 s (shP (Rx.parse s.data.toList)) = Q at *
     have hl : s.data.toList.length = s.size := by simp
     have hfn := fine_atom s.data.toList 16
     have A1 := alt_c s 0 (i := 0) (I := 0) (atom_c s (by omega) 16 0 rfl (by decide)) hfn (Rx.size_atom s.data.toList 16) rfl (Nat.zero_le _) (by omega)
     have F1 := fine_alt s.data.toList _ hfn 0 (Nat.zero_le _)
     have hls : s.data.toList.length ≤ 256 := by omega
     generalize hr1 : Rx.alt s.data.toList (Rx.atom s.data.toList 16) 0 = r1 at *
     have el := e_slen hE s
     clear hmf R2 R1 R hle q2 q3 t2 t3
     cbv
     refine use_rn hE A1 rfl rfl rfl rfl rfl (fine0_ne F1) (fun n p J x hr hJ hx => ?_) (fun e p X hr hX => ?_)
     case refine_2 =>
      cbv
      exact hP _ _ e p (par_bad hls (hr1.trans hr)) (by rw [← hX]; rfl) rfl rfl ⟨_, _, rfl, rfl, rfl, rfl⟩
     have hlt : J < (s.size : Int) → p < s.data.toList.length := by omega
     have hge : ¬ J < (s.size : Int) → ¬ p < s.data.toList.length := by omega
     have W1 := wrong_c s 0 nodeV hJ
     have O1 := other_bad (α := Node) s.data.toList p
     cbv
     refine c_lss hE (fun h => ?_) (fun h => ?_) <;> cbv
     · have h' : J < E.slen s := h
       rw [el] at h'
       refine use_bad hE W1 rfl rfl rfl rfl rfl O1 (fun e q X hr2 hX => ?_)
       cbv
       exact hP _ _ e q (par_more hls (hr1.trans hr) (hlt h') hr2) (by rw [← hX]; rfl) rfl rfl ⟨_, _, rfl, rfl, rfl, rfl⟩
     · have h' : ¬ J < E.slen s := h
       rw [el] at h'
       exact hQ _ _ _ rfl rfl (by rw [par_ok hls (hr1.trans hr) (hge h')]; unfold shP; show _ = V.tup [nsV (ns n), _]; rw [← hx]; rfl)
   rcases h with ⟨e', t2, cx2, g1, ⟨rfl, r, v', g2, g3, g4⟩, R3⟩ | ⟨ch, rfl, v, u, t2, cx2, rfl, hcl, ⟨ee, p, hp, rfl, q2, q3, cs0, cs1, r0, l0, r1, l1⟩, hrep, R3⟩
   · cases e <;> first | exact g1.elim | skip
     show Leaves _ _ a2.tmps _ a2.defers .returning w2
     rw [R3.df]
     refine leaves_cons (f := 131) (args := #[.pointer (some ⟨b0, 0, none⟩), .pointer (some ⟨b1, 0, none⟩)]) (by simp) (by simp [go_sem]) ?_
     refine (catch_idle b0 b1 w2).mono ?_
     rintro x u' w3 ⟨rfl, rfl, rfl⟩
     show Leaves _ _ _ _ [] .returning w3
     obtain ⟨u, k1, k2⟩ := run_results (P := Tryz.prog) lay_ok R3.tm (fun id r hr => R3.hp.row id r (getD_row hr)) g2
     refine ⟨u, k1, u, rfl, ⟨R3.kp.os, R3.kp.tape, R3.kp.output, R3.kp.size, fun b hb => R3.kp.block b hb (fun h => h)⟩, ?_⟩
     exact ((g4 ▸ nrm_le v') _ _ _ (frz_rep R3.hp k2 g3)).mono (Same.refl _ _) (none_le _ _ fun b hb => R3.kp.frzG R3.hp (fun _ _ _ _ _ _ _ _ _ _ h => h) (fun _ _ h => h) b hb)
   · show Leaves _ _ a2.tmps _ a2.defers (.panicking _) w2
     rw [R3.df]
     obtain rfl := fault_u hrep
     obtain ⟨b0', _, _, _, s2, a0'⟩ := ptr_at R3.tm q2
     obtain ⟨b1', _, _, _, s3, a1'⟩ := ptr_at R3.tm q3
     have e0 := (R3.kp.pin 0 _ (show (if 0 < 2 then cx1.at_ 0 else none) = some (.at b0 cap0 es0 len0) from at0)).1
     have e1 := (R3.kp.pin 1 _ (show (if 1 < 2 then cx1.at_ 1 else none) = some (.at b1 cap1 es1 len1) from at1)).1
     rw [e0] at a0'
     rw [e1] at a1'
     cases a0'
     cases a1'
     have hne : b0 ≠ b1 := fun e => by
      subst e
      exact absurd (R3.hp.inj _ _ _ _ _ _ _ _ _ _ _ r0 r1 e0 e1) (by decide)
     have hB0 : w.heap.size ≤ b0 := (R3.kp.live 0 _ _ _ _ _ r0 e0).resolve_left (fun h => h)
     have hB1 : w.heap.size ≤ b1 := (R3.kp.live 1 _ _ _ _ _ r1 e1).resolve_left (fun h => h)
     obtain ⟨vs0, g0, z0⟩ := box_at R3.hp r0 e0
     obtain ⟨vs1, g1, z1⟩ := box_at R3.hp r1 e1
     rw [l0] at z0
     rw [l1] at z1
     obtain ⟨⟨v0⟩, rfl⟩ : ∃ a, a = vs0 := ⟨vs0, rfl⟩
     obtain ⟨⟨v1⟩, rfl⟩ : ∃ a, a = vs1 := ⟨vs1, rfl⟩
     match v0, z0, v1, z1 with
     | [c0, c1, c2, c3, c4, c5, c6, c7], _, [d0, d1], _ =>
     refine leaves_cons (f := 131) (args := #[.pointer (some ⟨b0, 0, none⟩), .pointer (some ⟨b1, 0, none⟩)]) (by simp) (by simp [go_sem]) ?_
     refine (catch_fault b0 b1 ee p [] w2 w.heap.size c0 c1 c2 c3 c4 c5 c6 c7 d0 d1 g0 g1 hB0 hB1 hne).mono ?_
     rintro x u' w3 ⟨rfl, rfl, hg2, hh2, hb2⟩
     show Leaves _ _ _ _ [] .returning w3
     (have r0 : w3.cell? ⟨b0, 0, none⟩ = some (.int .i64 0) := hg2.cell 0; have r1 : w3.cell? ⟨b0, 1, none⟩ = some (.int .u64 0) := hg2.cell 1; have r2 : w3.cell? ⟨b0, 2, none⟩ = some (.int .u64 0) := hg2.cell 2; have r3 : w3.cell? ⟨b0, 3, none⟩ = some (.int .u64 0) := hg2.cell 3; have r4 : w3.cell? ⟨b0, 4, none⟩ = some (.int .u64 0) := hg2.cell 4; have r5 : w3.cell? ⟨b0, 5, none⟩ = some (.slice none 0 0) := hg2.cell 5; have r6 : w3.cell? ⟨b0, 6, none⟩ = some (.int .i64 0) := hg2.cell 6; have r7 : w3.cell? ⟨b0, 7, none⟩ = some (.int .i64 0) := hg2.cell 7; have rf : ∀ i, w3.frozen? ⟨b0, i, none⟩ = false := hg2.frozen)
     have k0 : w3.cell? ⟨b1, 0, none⟩ = some (.int .i64 ee) := hh2.cell 0
     have k1 : w3.cell? ⟨b1, 1, none⟩ = some (.int .i64 (p : Nat)) := hh2.cell 1
     have h2 : a2.tmps[2]?.getD undef = .pointer (some ⟨b0, 0, none⟩) := by rw [s2]; rfl
     have h3 : a2.tmps[3]?.getD undef = .pointer (some ⟨b1, 0, none⟩) := by rw [s3]; rfl
     refine ⟨.tuple #[.agg #[.int .i64 0, .int .u64 0, .int .u64 0, .int .u64 0, .int .u64 0, .slice none 0 0, .int .i64 0, .int .i64 0], .agg #[.int .i64 ee, .int .i64 (p : Nat)]], ?_, _, rfl, ?_, ?_⟩
     · simp [results, Tryz.results92, go_sem, h2, h3, r0, r1, r2, r3, r4, r5, r6, r7, k0, k1]
     · exact Below.trans ⟨R3.kp.os, R3.kp.tape, R3.kp.output, R3.kp.size, fun b hb => R3.kp.block b hb (fun h => h)⟩ hb2
     · rw [hp]
       exact zero_rep _ w3 ee p
end Rd
end Go.Proofs.YtagppjldegblhaaGreatDoor
namespace Go.Proofs.YtagppjldegblhaaGreatDoor.Bl
open Go Go.RowKit
theorem cc_used (b : Nat) (w : World) (h0 : w.cell? ⟨b, 0, none⟩ = some (.pointer (some ⟨b, 0, none⟩))) :
 Calls Tryz.prog 68 #[.pointer (some ⟨b, 0, none⟩)] w fun e w' => e = .returned (.tuple #[]) ∧ w' = w := by
 obtain ⟨j, hj, _⟩ := Option.map_eq_some_iff.1 (show (Tryz.prog.info? 77).map (·.size) = some 2 by kernel_rfl)
 go_enter Tryz.func68, Tryz.ntmps68
 go_wp2
 rw [Lib.run_neq_ptr_same w _ Tryz.underlying74 hj]
 go_wp2
 go_end0
 exact ⟨rfl, rfl⟩
theorem cc_fresh (b : Nat) (w : World) (h0 : w.cell? ⟨b, 0, none⟩ = some (.pointer none)) (hsh : w.shape? b = some (77, 2)) (hfz : w.frozen? ⟨b, 0, none⟩ = false) :
 Calls Tryz.prog 68 #[.pointer (some ⟨b, 0, none⟩)] w fun e w' => e = .returned (.tuple #[]) ∧ w' = w.setCell ⟨b, 0, none⟩ (.pointer (some ⟨b, 0, none⟩)) := by
 obtain ⟨j, hj, hjs⟩ := Option.map_eq_some_iff.1 (show (Tryz.prog.info? 77).map (·.size) = some 2 by kernel_rfl)
 go_enter Tryz.func68, Tryz.ntmps68
 go_wp2
 rw [Lib.run_to_unsafe w ⟨b, 0, none⟩ Tryz.underlying74 Tryz.underlying122 hj (by rw [hjs]; decide) hsh (Nat.zero_lt_succ 1)]
 simp only [Result.andThen]
 rw [Oper.upon_value]
 go_wp2
 rw [run_callFunc_extern Tryz.func93 (by kernel_rfl) (by kernel_rfl) (by kernel_rfl) (e := Extern.AbiNoEscape.same) (by kernel_rfl)]
 rw [Lib.run_noEscape]
 simp only [Result.andThen]
 rw [Oper.upon_value]
 go_wp2
 rw [Lib.run_from_unsafe w ⟨b, 0, none⟩ Tryz.underlying122 Tryz.underlying74 hj hsh (by kernel_rfl)]
 simp only [Result.andThen]
 rw [Oper.upon_value]
 go_wp2
 go_end0
 exact ⟨rfl, rfl⟩
def But1 (g : Nat) (w w' : World) : Prop := w'.os = w.os ∧ w'.tape = w.tape ∧ w'.output = w.output ∧ w.heap.size ≤ w'.heap.size ∧ ∀ k, k < w.heap.size → k ≠ g → w'.heap[k]? = w.heap[k]?
theorem but_freeze (g n : Nat) (w : World) : But1 g w (w.drew.freeze ⟨g, 0, none⟩ n) := by
 unfold World.freeze
 split
 · exact ⟨rfl, rfl, rfl, Nat.le_refl _, fun k _ _ => rfl⟩
 · refine ⟨rfl, rfl, rfl, Nat.le_of_eq (Array.size_modify ..).symm, fun k hk hne => ?_⟩
   show (Array.modify _ _ _)[k]? = _
   rw [Array.getElem?_modify, if_neg (fun e => hne e.symm)]
   rfl
theorem str_row (b g cap : Nat) (p : Value) (cur : Array Value) (l : List UInt8) (w : World) (hbk : w.heap[b]? = some (.cells #[p, .slice (some ⟨g, 0, none⟩) l.length cap] 77 (0, 0))) (hg : w.heap[g]? = some (.cells cur 5 (0, 0))) (hnc : l.length ≤ cap) (hcm : cap ≤ maxLen) (hcs : cur.size = cap)
 (hl : ∀ (j : Nat) (x : UInt8), l[j]? = some x → w.cell? ⟨g, j, none⟩ = some (.int .u8 x.toNat)) (h0 : l ≠ []) :
 Calls Tryz.prog 51 #[.pointer (some ⟨b, 0, none⟩)] w fun e w' => e = .returned (.string ⟨l.toArray⟩) ∧ But1 g w w' := by
 have hl0 : l.length ≠ 0 := by simpa using h0
 have c1 : w.drew.cell? ⟨b, 1, none⟩ = some (.slice (some ⟨g, 0, none⟩) l.length cap) := by
  have : w.drew.heap[b]? = some (.cells #[p, .slice (some ⟨g, 0, none⟩) l.length cap] 77 (0, 0)) := hbk
  rw [Lib.cell_of_heap this]; rfl
 have hSD : (Builtin.unsafeSliceData_ #[75] 99 #[.slice (some ⟨g, 0, none⟩) l.length cap]).run Tryz.prog w.drew = .ok (.pointer (some ⟨g, 0, none⟩)) w.drew :=
  Lib.run_unsafeSliceData_row _ _ _ _ _ _ (by omega)
 have hUS : (Builtin.unsafeString_ #[99, 3] 9 #[.pointer (some ⟨g, 0, none⟩), .int .i64 l.length]).run Tryz.prog w.drew = .ok (.string ⟨l.toArray⟩) (w.drew.freeze ⟨g, 0, none⟩ l.length) := by
  refine Lib.run_unsafeString_row w.drew 99 3 9 5 Tryz.underlying99 (by kernel_rfl) g cur.size (by have hg' : w.drew.heap[g]? = some (.cells cur 5 (0, 0)) := hg; simp [World.shape?, hg']) l h0 (by omega) (by unfold maxLen at hcm; omega) ?_
  intro j x hx
  have e : (⟨g, 0, none⟩ : Addr).add j = ⟨g, j, none⟩ := by
   unfold Addr.add
   split
   · subst_vars; rfl
   · simp
  rw [e]
  exact hl j x hx
 have hB := but_freeze g l.length w
 have mixed : Tryz.prog.follows .mixedOrders = true := by kernel_rfl
 go_enter Tryz.func51, Tryz.ntmps51
 go_wp2
 go_region_o
 all_goals (go_wp2; go_ret; exact ⟨rfl, hB⟩)
theorem us_none (W : World) (q : Option Addr) : (Builtin.unsafeString_ #[99, 3] 9 #[.pointer q, .int .i64 0]).run Tryz.prog W = .ok (.string .empty) W := Lib.run_unsafeString_none W _ _ _ q
theorem str_nil (b : Nat) (p : Value) (w : World) (hbk : w.heap[b]? = some (.cells #[p, .slice none 0 0] 77 (0, 0))) :
 Calls Tryz.prog 51 #[.pointer (some ⟨b, 0, none⟩)] w fun e w' => e = .returned (.string ⟨#[]⟩) ∧ Below w.heap.size w w' := by
 have hUS := us_none
 have c1 : w.drew.cell? ⟨b, 1, none⟩ = some (.slice none 0 0) := by
  have : w.drew.heap[b]? = some (.cells #[p, .slice none 0 0] 77 (0, 0)) := hbk
  rw [Lib.cell_of_heap this]; rfl
 have hSD : (Builtin.unsafeSliceData_ #[75] 99 #[.slice none 0 0]).run Tryz.prog w.drew = .ok (.pointer none) w.drew := rfl
 have mixed : Tryz.prog.follows .mixedOrders = true := by kernel_rfl
 go_enter Tryz.func51, Tryz.ntmps51
 go_wp2
 go_region_o
 all_goals (go_wp2; go_ret; exact ⟨rfl, Below.drew (Below.refl _ w)⟩)
theorem str_noroom (b g : Nat) (p : Value) (cur : Array Value) (w : World) (hbk : w.heap[b]? = some (.cells #[p, .slice (some ⟨g, 0, none⟩) 0 0] 77 (0, 0))) (hg : w.heap[g]? = some (.cells cur 5 (0, 0))) :
 Calls Tryz.prog 51 #[.pointer (some ⟨b, 0, none⟩)] w fun e w' => e = .returned (.string ⟨#[]⟩) ∧ Below w.heap.size w w' := by
 have hUS := us_none
 have hlt : b < w.heap.size := by
  rcases Nat.lt_or_ge b w.heap.size with h' | h'
  · exact h'
  · simp [Array.getElem?_eq_none h'] at hbk
 have c1 : w.drew.cell? ⟨b, 1, none⟩ = some (.slice (some ⟨g, 0, none⟩) 0 0) := by
  have : w.drew.heap[b]? = some (.cells #[p, .slice (some ⟨g, 0, none⟩) 0 0] 77 (0, 0)) := hbk
  rw [Lib.cell_of_heap this]; rfl
 have hSD : (Builtin.unsafeSliceData_ #[75] 99 #[.slice (some ⟨g, 0, none⟩) 0 0]).run Tryz.prog w.drew = .ok (.pointer (some ⟨w.drew.heap.size, 0, none⟩)) (w.drew.alloc (.view ⟨g, 0, none⟩ 5)) :=
  Lib.run_unsafeSliceData_zero w.drew _ _ 5 Tryz.underlying99 ⟨g, 0, none⟩ 0 (5, cur.size) (by have hg' : w.drew.heap[g]? = some (.cells cur 5 (0, 0)) := hg; simp [World.shape?, hg'])
 have c2 : (w.drew.alloc (.view ⟨g, 0, none⟩ 5)).cell? ⟨b, 1, none⟩ = some (.slice (some ⟨g, 0, none⟩) 0 0) := by
  have : (w.drew.alloc (.view ⟨g, 0, none⟩ 5)).heap[b]? = _ := (Lib.alloc_old w.drew _ b hlt).trans hbk
  rw [Lib.cell_of_heap this]; rfl
 have c3 : (w.alloc (.view ⟨g, 0, none⟩ 5)).drew.cell? ⟨b, 1, none⟩ = some (.slice (some ⟨g, 0, none⟩) 0 0) := c2
 have c0 : w.cell? ⟨b, 1, none⟩ = some (.slice (some ⟨g, 0, none⟩) 0 0) := c1
 have mixed : Tryz.prog.follows .mixedOrders = true := by kernel_rfl
 go_enter Tryz.func51, Tryz.ntmps51
 go_wp2
 go_region_o
 all_goals (go_wp2; go_ret; exact ⟨rfl, (Below.drew (Below.refl _ w)).alloc (Nat.le_refl _) _⟩)
theorem str_room (b g cap : Nat) (p : Value) (w : World) (hc0 : cap ≠ 0) (hbk : w.heap[b]? = some (.cells #[p, .slice (some ⟨g, 0, none⟩) 0 cap] 77 (0, 0))) :
 Calls Tryz.prog 51 #[.pointer (some ⟨b, 0, none⟩)] w fun e w' => e = .returned (.string ⟨#[]⟩) ∧ Below w.heap.size w w' := by
 have hUS := us_none
 have c1 : w.drew.cell? ⟨b, 1, none⟩ = some (.slice (some ⟨g, 0, none⟩) 0 cap) := by
  have : w.drew.heap[b]? = some (.cells #[p, .slice (some ⟨g, 0, none⟩) 0 cap] 77 (0, 0)) := hbk
  rw [Lib.cell_of_heap this]; rfl
 have hSD : (Builtin.unsafeSliceData_ #[75] 99 #[.slice (some ⟨g, 0, none⟩) 0 cap]).run Tryz.prog w.drew = .ok (.pointer (some ⟨g, 0, none⟩)) w.drew :=
  Lib.run_unsafeSliceData_row _ _ _ _ _ _ hc0
 clear hc0
 have mixed : Tryz.prog.follows .mixedOrders = true := by kernel_rfl
 go_enter Tryz.func51, Tryz.ntmps51
 go_wp2
 go_region_o
 all_goals (go_wp2; go_ret; exact ⟨rfl, Below.drew (Below.refl _ w)⟩)
end Go.Proofs.YtagppjldegblhaaGreatDoor.Bl
namespace Go.Proofs.YtagppjldegblhaaGreatDoor
open Go Go.RowKit
namespace Ab
section
variable {A : Run}
abbrev vPnil : V := .t (.flat (.pointer none))
theorem shape_cells {w : World} {b : Nat} {vs : Array Value} {ty : TypeId} (h : w.heap[b]? = some (.cells vs ty (0, 0))) : w.shape? b = some (ty, vs.size) := by simp [World.shape?, h]
theorem frozen_cells {w : World} {b o : Nat} {vs : Array Value} {ty : TypeId} (h : w.heap[b]? = some (.cells vs ty (0, 0))) : w.frozen? ⟨b, o, none⟩ = false := by simp [World.frozen?, h]
theorem set_but {w : World} {b : Nat} (v : Value) : But b w (w.setCell ⟨b, 0, none⟩ v) := by
 refine ⟨rfl, rfl, rfl, ?_, fun k hk => ?_⟩
 · show (Array.modify _ _ _).size = _
   rw [Array.size_modify]
 · show (Array.modify _ _ _)[k]? = _
   rw [Array.getElem?_modify, if_neg (fun e => hk e.symm)]
theorem call_check {s : St} {K : V → St → Prop} {id : Nat} {c0 c1 : V} (hrow : s.heap.getD id none = some (.box 77 [c0, c1])) (h0 : c0 = vPnil ∨ c0 = .ptr id 0)
 (hK : K (.tup []) (s.setRow id (.box 77 [.ptr id 0, c1]))) : CallA Tryz.prog A 68 [.ptr id 0] s K := by
 refine ⟨Tryz.call68, fun cx a w cargs R hargs => ?_⟩
 obtain ⟨u0, r0, rfl, hu, hr⟩ := hargs.uncons
 obtain rfl : r0 = #[] := Array.size_eq_zero_iff.1 hr.1
 have hrow' := getD_row hrow
 have hR := R.hp.row id _ hrow'
 cases hR with
 | box ty cs b vs hat hbl hnG hrr =>
   cases hu with
   | ptr id off b' cap es len h' =>
     rw [hat] at h'
     cases h'
     have hvs : vs.size = 2 := hrr.1
     have hv0 : vs[0]? = some vs[0] := Array.getElem?_eq_getElem (by omega)
     have hv1 : vs[1]? = some vs[1] := Array.getElem?_eq_getElem (by omega)
     have r0 := hrr.2 0 c0 _ rfl hv0
     have r1 := hrr.2 1 c1 _ rfl hv1
     have c0' : w.cell? ⟨b, 0, none⟩ = some vs[0] := by simp [World.cell?, hbl, hv0]
     have tupR : ∀ {cx : Cx} {w : World}, VRep cx w (.tup []) (.tuple #[]) := fun {cx w} => .tup [] #[] rfl fun i c u h => by simp at h
     rcases h0 with rfl | rfl
     · have e : vs[0] = .pointer none := inv_flat r0
       rw [e] at c0'
       refine (Bl.cc_fresh b w c0' (by rw [shape_cells hbl, hvs]) (frozen_cells hbl)).mono ?_
       rintro e w' ⟨rfl, rfl⟩
       have hnew : (w.setCell ⟨b, 0, none⟩ (.pointer (some ⟨b, 0, none⟩))).heap[b]? = some (.cells (vs.setIfInBounds 0 (.pointer (some ⟨b, 0, none⟩))) 77 (0, 0)) := by
        show (Array.modify _ _ _)[b]? = _
        rw [Array.getElem?_modify, if_pos rfl, hbl]; rfl
       have hsame : Same cx.G w (w.setCell ⟨b, 0, none⟩ (.pointer (some ⟨b, 0, none⟩))) := fun k hk => (set_but (b := b) (.pointer (some ⟨b, 0, none⟩))).other k (fun e => hnG (e ▸ hk))
       have R' := R.write hrow' hat (set_but (.pointer (some ⟨b, 0, none⟩))) (.box 77 [.ptr id 0, c1] b _ hat hnew hnG ⟨by simp [hvs], fun i c u h1 h2 => by
        match i, h1, h2 with
        | 0, h1, h2 =>
          cases h1
          rw [Array.getElem?_setIfInBounds_self_of_lt (by omega)] at h2
          cases h2
          exact .ptr id 0 b _ _ _ hat
        | 1, h1, h2 =>
          cases h1
          rw [Array.getElem?_setIfInBounds_ne (by decide), hv1] at h2
          cases h2
          exact r1.mono hsame (Cx.le.refl cx)
        | n + 2, h1, h2 => simp at h1⟩) (fun h => by cases h)
       exact .inl ⟨_, _, _, cx, rfl, hK, tupR, R'⟩
     · have e : vs[0] = .pointer (some ⟨b, 0, none⟩) := by
        generalize vs[0] = y at r0
        cases r0 with
        | ptr id off b' cap es len h' => rw [hat] at h'; cases h'; rfl
       rw [e] at c0'
       refine (Bl.cc_used b w c0').mono ?_
       rintro e w' ⟨rfl, rfl⟩
       have es : s.setRow id (.box 77 [.ptr id 0, c1]) = s := by
        unfold St.setRow
        congr 1
        have hlt : id < s.heap.length := (List.getElem?_eq_some_iff.1 hrow').1
        have := (List.getElem?_eq_some_iff.1 hrow').2
        rw [← this, List.set_getElem_self]
       rw [es] at hK
       exact .inl ⟨_, _, _, cx, rfl, hK, tupR, R⟩
theorem Rel.lose {cx : Cx} {s : St} {a : Act} {w w' : World} {id ty es g cap es' len : Nat} {rows : Rows} (R : Rel A cx s a w) (hr : s.heap[id]? = some (some (.list ty es rows))) (hfree : A.pin id = none) (hat : cx.at_ id = some (.at g cap es' len)) (hb : Bl.But1 g w w') :
 Rel A ⟨fun i => if i = id then none else cx.at_ i, cx.G⟩ (s.drop id) a w' := by
 obtain ⟨b1, b2, b3, b4, b5⟩ := hb
 have hid : id < s.heap.length := (List.getElem?_eq_some_iff.1 hr).1
 have hlv := R.hp.live_lt hr hat
 have hs : Same cx.G w w' := fun b hb => b5 b (R.kp.G1 b hb) (fun e => hlv.2 (e ▸ hb))
 have hat' : ∀ i B', i ≠ id → cx.at_ i = some B' → (if i = id then none else cx.at_ i) = some B' := fun i B' hne h => by rw [if_neg hne]; exact h
 have hG : ∀ b, cx.G b → cx.G b := fun b h => h
 have hh : ∀ (i : Nat) x, (s.drop id).heap[i]? = some (some x) → i ≠ id ∧ ∃ y, s.heap[i]? = some (some y) ∧ killRow id (some y) = some x := fun i x hx => by
  simp only [St.drop] at hx
  by_cases e : id = i
  · subst e
    rw [List.getElem?_set_self (by simpa using hid)] at hx
    cases hx
  · rw [List.getElem?_set_ne e, List.getElem?_map] at hx
    obtain ⟨y, hy, hk⟩ := Option.map_eq_some_iff.1 hx
    cases y with
    | none => cases hk
    | some y => exact ⟨Ne.symm e, y, hy, hk⟩
 have atne : ∀ {i : Nat}, i ≠ id → (if i = id then none else cx.at_ i) = cx.at_ i := fun h => if_neg h
 have old : ∀ (i : Nat) y b cap es' len, i ≠ id → s.heap[i]? = some (some y) → cx.at_ i = some (.at b cap es' len) → w'.heap[b]? = w.heap[b]? := fun i y b cap es' len hne hy hb => b5 b (R.hp.live_lt hy hb).1 fun e => by
  subst e
  exact hne (R.hp.inj _ _ _ _ _ _ _ _ _ _ _ hy hr hb hat)
 constructor
 · exact R.tm.killL hs hat' hG
 · exact R.df
 · constructor
   · intro i x hx
     obtain ⟨hne, y, hy, hk⟩ := hh i x hx
     have hR := R.hp.row i y hy
     cases hR with
     | box ty' cs b vs hat2 hbl hn hrr =>
       simp only [killRow, Option.some.injEq] at hk
       subst hk
       refine .box ty' _ b vs ?_ ((old i _ b _ _ _ hne hy hat2).trans hbl) hn (hrr.killL hs hat' hG)
       show (if i = id then none else cx.at_ i) = _
       rw [atne hne, hat2, killL_map, List.length_map]
     | listN ty' es' hat2 =>
       simp only [killRow, Option.some.injEq] at hk
       subst hk
       exact .listN _ _ (by show (if i = id then none else cx.at_ i) = _; rw [atne hne]; exact hat2)
     | list ty' es' rows2 b cap vs hat2 hbl hn hcap hmax hsz hes hrr =>
       simp only [killRow, Option.some.injEq] at hk
       subst hk
       refine .list ty' es' rows2 b cap vs (by show (if i = id then none else cx.at_ i) = _; rw [atne hne]; exact hat2) ((old i _ b _ _ _ hne hy hat2).trans hbl) hn hcap hmax hsz hes (fun k j t ht => ?_)
       obtain ⟨u, h1, h2⟩ := hrr k j t ht
       exact ⟨u, h1, h2.mono hs hG⟩
     | iter s' pos b hat2 hbl hn h0 =>
       simp only [killRow, Option.some.injEq] at hk
       subst hk
       exact .iter s' pos b (by show (if i = id then none else cx.at_ i) = _; rw [atne hne]; exact hat2) ((old i _ b _ _ _ hne hy hat2).trans hbl) hn h0
   · intro i i' x x' b cap es1 len cap' es2 len' h1 h2 h3 h4
     obtain ⟨hne, y, hy, -⟩ := hh i x h1
     obtain ⟨hne', y', hy', -⟩ := hh i' x' h2
     have h3' : (if i = id then none else cx.at_ i) = some (.at b cap es1 len) := h3
     have h4' : (if i' = id then none else cx.at_ i') = some (.at b cap' es2 len') := h4
     rw [atne hne] at h3'
     rw [atne hne'] at h4'
     exact R.hp.inj _ _ _ _ _ _ _ _ _ _ _ hy hy' h3' h4'
   · intro i hi
     simp only [St.drop, List.length_set, List.length_map] at hi
     show (if i = id then none else cx.at_ i) = none
     rw [if_neg (by omega)]
     exact R.hp.dom i hi
 · constructor
   · rw [b1]; exact R.kp.os
   · rw [b2]; exact R.kp.tape
   · rw [b3]; exact R.kp.output
   · exact Nat.le_trans R.kp.size b4
   · intro b hb hM
     rw [b5 b (Nat.lt_of_lt_of_le hb R.kp.size) (fun e => ?_)]
     · exact R.kp.block b hb hM
     · subst e
       rcases R.kp.live _ _ _ _ _ _ hr hat with h | h
       · exact hM h
       · omega
   · intro i x b cap es' len h1 h2
     obtain ⟨hne, y, hy, -⟩ := hh i x h1
     have h2' : (if i = id then none else cx.at_ i) = some (.at b cap es' len) := h2
     rw [atne hne] at h2'
     exact R.kp.live _ _ _ _ _ _ hy h2'
   · exact R.kp.G0
   · exact fun b h => Nat.lt_of_lt_of_le (R.kp.G1 b h) b4
   · exact R.kp.G2
   · intro i B h
     have := R.kp.pin i B h
     have hne : i ≠ id := fun e => by subst e; rw [hfree] at h; cases h
     exact ⟨hat' _ _ hne this.1, this.2⟩
   · simp only [St.drop, List.length_set, List.length_map]; exact R.kp.base
   · exact R.kp.tab.mono hs hG
 · exact R.bs
def ofB (l : List Int) : List UInt8 := l.map fun n => UInt8.ofNat n.toNat
theorem call_str {s : St} {K : V → St → Prop} {id k : Nat} {c0 : V} {l : List Int} (hrow : s.heap.getD id none = some (.box 77 [c0, .lst k])) (hl : s.heap.getD k none = some (.list 5 1 (l.map fun n => [.flat (.int .u8 n)]))) (hok : ∀ n ∈ l, 0 ≤ n ∧ n < 256) (hfree : A.pin k = none)
 (hK : K (fS ⟨(ofB l).toArray⟩) (s.drop k)) : CallA Tryz.prog A 51 [.ptr id 0] s K := by
 refine ⟨Tryz.call51, fun cx a w cargs R hargs => ?_⟩
 obtain ⟨u0, r0, rfl, hu, hr⟩ := hargs.uncons
 obtain rfl : r0 = #[] := Array.size_eq_zero_iff.1 hr.1
 have hrow' := getD_row hrow
 have hl' := getD_row hl
 have hR := R.hp.row id _ hrow'
 have hRl := R.hp.row k _ hl'
 have grown : ∀ {w' : World}, Below w.heap.size w w' → ∃ cx', Rel A cx' (s.drop k) a w' := fun {w'} hbl => by
  obtain ⟨-, R1⟩ := step_grown (v := .tup []) (u := .tuple #[]) R hbl (.tup [] #[] rfl fun i c u h => by simp at h)
  exact ⟨_, R1.drop hl' hfree⟩
 cases hR with
 | box ty cs b vs hat hbl hnG hrr =>
   cases hu with
   | ptr _ off b' cap es len h' =>
     rw [hat] at h'
     cases h'
     have hvs : vs.size = 2 := hrr.1
     have hv1 : vs[1]? = some vs[1] := Array.getElem?_eq_getElem (by omega)
     have r1 := hrr.2 1 (.lst k) _ rfl hv1
     have evs : vs = #[vs[0], vs[1]] := by
      apply Array.ext
      · simp [hvs]
      · intro i h1 h2
        match i, h1, h2 with
        | 0, _, _ => rfl
        | 1, _, _ => rfl
        | n + 2, h1, _ => omega
     generalize vs[0] = p at evs
     generalize vs[1] = y at evs r1
     subst evs
     clear hv1
     cases r1 with
     | lstN _ h =>
       have hl0 : l = [] := by
        generalize hrows : (l.map fun n => [T.flat (.int .u8 n)]) = rows at hRl
        cases hRl with
        | listN => simpa using hrows
        | list ty es rows b cap vs h2 => rw [h] at h2; cases h2
       subst hl0
       refine (Bl.str_nil b p w hbl).mono ?_
       rintro e w' ⟨rfl, hb⟩
       obtain ⟨cx', R'⟩ := grown hb
       exact .inl ⟨_, _, _, cx', rfl, hK, rep_flat rfl, R'⟩
     | lst _ g cap es len h =>
       have key : ∃ cur, w.heap[g]? = some (.cells cur 5 (0, 0)) ∧ l.length ≤ cap ∧ cap ≤ maxLen ∧ cur.size = cap ∧ len = l.length ∧ ∀ (j : Nat) (x : UInt8), (ofB l)[j]? = some x → w.cell? ⟨g, j, none⟩ = some (.int .u8 x.toNat) := by
        generalize hrows : (l.map fun n => [T.flat (.int .u8 n)]) = rows at hRl
        cases hRl with
        | listN ty es h2 => rw [h] at h2; cases h2
        | list ty es rows b cap vs h2 hb2 hn hcap hmax hsz hes hrr2 =>
          rw [h] at h2
          cases h2
          have hlen : rows.length = l.length := by rw [← hrows]; simp
          refine ⟨vs, hb2, by omega, hmax, by simpa using hsz, hlen, fun j x hx => ?_⟩
          unfold ofB at hx
          rw [List.getElem?_map] at hx
          obtain ⟨n, hn2, rfl⟩ := Option.map_eq_some_iff.1 hx
          obtain ⟨u, q1, q2⟩ := hrr2 j 0 (.flat (.int .u8 n)) (by rw [← hrows, List.getElem?_map, hn2]; rfl)
          have := trep_flat q2
          subst this
          have ho := hok n (List.mem_of_getElem? hn2)
          simp only [World.cell?, hb2]
          rw [show j * 1 + 0 = j by omega] at q1
          simp only [Option.isSome_none, Bool.false_eq_true, if_false, q1]
          congr 2
          rw [UInt8.toNat_ofNat']
          omega
       obtain ⟨cur, hg, q1, q2, q3, rfl, q5⟩ := key
       by_cases h0 : l = []
       · subst h0
         by_cases hc : cap = 0
         · subst hc
           refine (Bl.str_noroom b g p cur w hbl hg).mono ?_
           rintro e w' ⟨rfl, hb⟩
           obtain ⟨cx', R'⟩ := grown hb
           exact .inl ⟨_, _, _, cx', rfl, hK, rep_flat rfl, R'⟩
         · refine (Bl.str_room b g cap p w hc hbl).mono ?_
           rintro e w' ⟨rfl, hb⟩
           obtain ⟨cx', R'⟩ := grown hb
           exact .inl ⟨_, _, _, cx', rfl, hK, rep_flat rfl, R'⟩
       · have hll : (ofB l).length = l.length := by simp [ofB]
         refine (Bl.str_row b g cap p cur (ofB l) w (by rw [hll]; exact hbl) hg (by omega) q2 q3 q5 (fun e => h0 (List.length_eq_zero_iff.1 (by rw [← hll, e]; rfl)))).mono ?_
         rintro e w' ⟨rfl, hb⟩
         exact .inl ⟨_, _, _, _, rfl, hK, rep_flat rfl, R.lose hl' hfree h hb⟩
theorem call_str0 {s : St} {K : V → St → Prop} {id : Nat} {c0 : V} (hrow : s.heap.getD id none = some (.box 77 [c0, vNil])) (hK : K (fS ByteArray.empty) s) : CallA Tryz.prog A 51 [.ptr id 0] s K := by
 refine ⟨Tryz.call51, fun cx a w cargs R hargs => ?_⟩
 obtain ⟨u0, r0, rfl, hu, hr⟩ := hargs.uncons
 obtain rfl : r0 = #[] := Array.size_eq_zero_iff.1 hr.1
 have hR := R.hp.row id _ (getD_row hrow)
 cases hR with
 | box ty cs b vs hat hbl hnG hrr =>
   cases hu with
   | ptr _ off b' cap es len h' =>
     rw [hat] at h'
     cases h'
     have hvs : vs.size = 2 := hrr.1
     have hv1 : vs[1]? = some vs[1] := Array.getElem?_eq_getElem (by omega)
     have r1 := inv_flat (hrr.2 1 vNil _ rfl hv1)
     have evs : vs = #[vs[0], .slice none 0 0] := by
      apply Array.ext
      · simp [hvs]
      · intro i h1 h2
        match i, h1, h2 with
        | 0, _, _ => rfl
        | 1, _, _ => exact r1
        | n + 2, h1, _ => omega
     rw [evs] at hbl
     refine (Bl.str_nil b _ w hbl).mono ?_
     rintro e w' ⟨rfl, hb⟩
     obtain ⟨-, R1⟩ := step_grown (v := .tup []) (u := .tuple #[]) R hb (.tup [] #[] rfl fun i c u h => by simp at h)
     exact .inl ⟨_, _, _, _, rfl, hK, rep_flat rfl, R1⟩
end
end Ab
end Go.Proofs.YtagppjldegblhaaGreatDoor
namespace Go.Proofs.YtagppjldegblhaaGreatDoor
open Go Go.RowKit
open Ab
namespace Sh
section
variable {A : Run} {W : Wd} {E : Env} (hE : dom Tryz.prog A = mkE W E)
include hE
theorem L_check {s : St} {K : V → St → Prop} {id : Nat} {c0 c1 : V} (hrow : s.heap.getD id none = some (.box 77 [c0, c1])) (h0 : c0 = vPnil ∨ c0 = .ptr id 0) (hK : K (.tup []) (s.setRow id (.box 77 [.ptr id 0, c1]))) : E.call 68 [.ptr id 0] s K := by
 show (mkE W E).call _ _ _ _
 rw [← hE]
 exact call_check hrow h0 hK
theorem L_str {R : RF} (hR : R = rw) {β : Type} {v : β} {X : ByteArray → Option β} {s : St} {K : V → St → Prop} {id k : Nat} {c0 : V} {l : List Int} (h : (strB l).bind X = some v) (hrow : s.heap.getD id none = some (.box 77 [c0, .lst k])) (hl : s.heap.getD k none = some (.list 5 1 (R Int (cI .u8) l))) (hf : E.free k)
 (hK : ∀ x, X x = some v → K (fS x) (s.drop k)) : E.call 51 [.ptr id 0] s K := by
 obtain ⟨x, h1, h2⟩ := conv_some h
 have hf' : (mkE W E).free k := hf
 show (mkE W E).call _ _ _ _
 rw [← hE] at hf' ⊢
 subst hR
 unfold strB at h1
 split at h1
 case isFalse => cases h1
 rename_i hok
 cases h1
 exact call_str hrow hl (fun n hn => by simpa using List.all_eq_true.1 hok n hn) hf' (hK _ h2)
theorem L_str0 {s : St} {K : V → St → Prop} {id : Nat} {c0 : V} (hrow : s.heap.getD id none = some (.box 77 [c0, vNil])) (hK : K (fS ByteArray.empty) s) : E.call 51 [.ptr id 0] s K := by
 show (mkE W E).call _ _ _ _
 rw [← hE]
 exact call_str0 hrow hK
end
end Sh
end Go.Proofs.YtagppjldegblhaaGreatDoor
