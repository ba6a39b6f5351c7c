/- Texts that the proof leans on. -/
import Derived.Test.YtpplemjjeefpdaaGreatDoorK230
set_option linter.unusedVariables false
set_option linter.unusedSimpArgs false
set_option maxRecDepth 100000
set_option maxHeartbeats 4000000
namespace Go.Proofs.YtpplemjjeefpdaaGreatDoor
open Go Go.RowKit
open Ab Sh
namespace Gn
theorem r13_piece_w {rec:ByteArray→Int→Int→Option Gr13_P} (hrec:∀{p0:ByteArray} {p1:Int} {p2:Int} {r:Gr13_P},rec p0 p1 p2=some r→FunS Tryz.prog 162 [fS p0,fI .i64 p1,fI .i64 p2] (r13_atom_s rw) r) {N:Nat} {p0:ByteArray} {p1:Int} {p2:Int} {r:Gr13_P} (h:r13_piece_g rec N p0 p1 p2=some r):FunS Tryz.prog 150 [fS p0,fI .i64 p1,fI .i64 p2] (r13_piece_s rw) r:=by
 refine fun_w lay_ok Tryz.call150 Tryz.func150 rfl ?_
 intro A W E Q R hE hR hf hQ;rcases W with ⟨ar,cm,conj,cv,sl,sc,ct,sa,ss,ll,_,_,_,_,mi,mx,_,_,_⟩
 unfold r13_piece_g at h
 rw [q_ar hE,q_cm hE,q_sl hE,q_sa hE] at h
 cbv
 refine L_call hE hR h (fun _ e=>hrec e) rfl rfl fun a1 h=>?_;cbv
 refine L_rgJ hE lay_ok h 2 (fun j1:Bool=>[(23,fB j1)]) (fun j1=>[]) (fun j1 h=>?_) (fun j1 h=>?_)<;>cbv
 · refine L_if hE h (fun h=>?_) (fun h=>?_)<;>cbv
   · cases h;(cbv;(try simp only [e_rnil hR]);repeat' (first | exact trivial | exact rfl | exact Or.inr trivial | apply And.intro))
   cases h;(cbv;(try simp only [e_rnil hR]);repeat' (first | exact trivial | exact rfl | exact Or.inr trivial | apply And.intro))
 refine L_if hE h (fun h=>?_) (fun h=>?_)<;>cbv
 · exact And.left (hQ _ _ _ rfl rfl (by cases h;subst hR;rfl))
 refine L_sin hE h fun h=>?_
 refine L_if hE h (fun h=>?_) (fun h=>?_)<;>cbv
 · refine L_call hE hR h (fun _ e=>r13_rep_w e) (by subst hR;rfl) rfl fun a2 h=>?_;cbv
   exact And.left (hQ _ _ _ rfl rfl (by cases h;subst hR;rfl))
 refine L_if hE h (fun h=>?_) (fun h=>?_)<;>cbv
 · refine L_call hE hR h (fun _ e=>r13_rep_w e) (by subst hR;rfl) rfl fun a3 h=>?_;cbv
   exact And.left (hQ _ _ _ rfl rfl (by cases h;subst hR;rfl))
 refine L_if hE h (fun h=>?_) (fun h=>?_)<;>cbv
 · refine L_call hE hR h (fun _ e=>r13_rep_w e) (by subst hR;rfl) rfl fun a4 h=>?_;cbv
   exact And.left (hQ _ _ _ rfl rfl (by cases h;subst hR;rfl))
 refine L_if hE h (fun h=>?_) (fun h=>?_)<;>cbv
 · refine L_call hE hR h (fun _ e=>r13_braces_w e) (by subst hR;rfl) rfl fun a5 h=>?_;cbv
   exact And.left (hQ _ _ _ rfl rfl (by cases h;subst hR;rfl))
 exact And.left (hQ _ _ _ rfl rfl (by cases h;subst hR;rfl))
theorem r13_cat_w {rec:ByteArray→Int→Int→Option Gr13_P} (hrec:∀{p0:ByteArray} {p1:Int} {p2:Int} {r:Gr13_P},rec p0 p1 p2=some r→FunS Tryz.prog 162 [fS p0,fI .i64 p1,fI .i64 p2] (r13_atom_s rw) r) {N:Nat} {p0:ByteArray} {p1:Int} {p2:Int} {r:Gr13_P} (h:r13_cat_g rec N p0 p1 p2=some r):FunS Tryz.prog 127 [fS p0,fI .i64 p1,fI .i64 p2] (r13_cat_s rw) r:=by
 refine fun_w lay_ok Tryz.call127 Tryz.func127 rfl ?_
 intro A W E Q R hE hR hf hQ;rcases W with ⟨ar,cm,conj,cv,sl,sc,ct,sa,ss,ll,_,_,_,_,mi,mx,_,_,_⟩
 unfold r13_cat_g at h
 skip
 cbv
 refine L_for hE lay_ok 1 (fun g:Int ×(List Node)× Nat=>[(1,fI .i64 g.1),(7,.lst 1)]) (fun g=>[(1,.list 81 8 (R _ nodeRow g.2.1))]) (fun g=>r13_cat_l1 rec N p0 p2 g.2.2 g.1 g.2.1=some r) (fun g=>g.2.2) (_,_,N) h ?_ ?_
 · (cbv;(try simp only [e_rnil hR]);repeat' (first | exact trivial | exact rfl | exact Or.inr trivial | apply And.intro))
 rintro ⟨v1,v2,m1⟩ h Q1 hN1 hT1 hX1
 have h:r13_cat_l1 rec N p0 p2 m1 v1 v2=some r:=h
 cases m1 with
 | zero=>exact nomatch (show (none:Option _)=some _ from h)
 | succ m1=>
 rw [r13_cat_l1] at h
 rw [q_cm hE,q_sl hE,q_sa hE] at h
 cbv
 refine L_rgJ hE lay_ok h 2 (fun j2:Bool=>[(24,fB j2)]) (fun j2=>[]) (fun j2 h=>?_) (fun j2 h=>?_)<;>cbv
 · refine L_if hE h (fun h=>?_) (fun h=>?_)<;>cbv
   · refine L_sin hE h fun h=>?_
     refine L_if hE h (fun h=>?_) (fun h=>?_)<;>cbv
     · refine L_sin hE h fun h=>?_
       cases h;(cbv;(try simp only [e_rnil hR]);repeat' (first | exact trivial | exact rfl | exact Or.inr trivial | apply And.intro))
     cases h;(cbv;(try simp only [e_rnil hR]);repeat' (first | exact trivial | exact rfl | exact Or.inr trivial | apply And.intro))
   cases h;(cbv;(try simp only [e_rnil hR]);repeat' (first | exact trivial | exact rfl | exact Or.inr trivial | apply And.intro))
 refine L_if hE h (fun h=>?_) (fun h=>?_)<;>cbv
 · refine L_call hE hR h (fun _ e=>r13_piece_w (fun e=>hrec e) e) rfl rfl fun a3 h=>?_;cbv
   refine L_if hE h (fun h=>?_) (fun h=>?_)<;>cbv
   · refine hT1 _ ?_
     exact And.left (hQ _ _ _ rfl rfl (by cases h;subst hR;rfl))
   refine L_lit hR (e:=nodeRow) h (node_new hR) fun l4 e h=>?_;cbv at e;rw [e];clear e
   refine L_app hE hR h (hf _) nodeRow_len (by decide) fun l5 e h=>?_;cbv at e;rw [e];clear e
   refine hN1 _ (_,_,m1) [] h (Nat.lt_succ_self _) trivial ?_;(cbv;(try simp only [e_rnil hR]);repeat' (first | exact trivial | exact rfl | exact Or.inr trivial | apply And.intro))
 refine hX1 _ _ ?_;cbv
 refine L_give hE hR 1 h (fun _ e=>r13_join_w e) rfl rfl (hf _) rfl (by subst hR;rfl) fun a6 h=>?_;cbv
 exact And.left (hQ _ _ _ rfl rfl (by cases h;subst hR;rfl))
theorem r13_alt_w {rec:ByteArray→Int→Int→Option Gr13_P} (hrec:∀{p0:ByteArray} {p1:Int} {p2:Int} {r:Gr13_P},rec p0 p1 p2=some r→FunS Tryz.prog 162 [fS p0,fI .i64 p1,fI .i64 p2] (r13_atom_s rw) r) {N:Nat} {p0:ByteArray} {p1:Int} {p2:Int} {r:Gr13_P} (h:r13_alt_g rec N p0 p1 p2=some r):FunS Tryz.prog 84 [fS p0,fI .i64 p1,fI .i64 p2] (r13_alt_s rw) r:=by
 refine fun_w lay_ok Tryz.call84 Tryz.func84 rfl ?_
 intro A W E Q R hE hR hf hQ;rcases W with ⟨ar,cm,conj,cv,sl,sc,ct,sa,ss,ll,_,_,_,_,mi,mx,_,_,_⟩
 unfold r13_alt_g at h
 rw [q_cm hE] at h
 cbv
 refine L_call hE hR h (fun _ e=>r13_cat_w (fun e=>hrec e) e) rfl rfl fun a1 h=>?_;cbv
 refine L_rgJ hE lay_ok h 2 (fun j1:Bool=>[(23,fB j1)]) (fun j1=>[]) (fun j1 h=>?_) (fun j1 h=>?_)<;>cbv
 · refine L_if hE h (fun h=>?_) (fun h=>?_)<;>cbv
   · cases h;(cbv;(try simp only [e_rnil hR]);repeat' (first | exact trivial | exact rfl | exact Or.inr trivial | apply And.intro))
   refine L_call hE hR h (fun _ e=>r13_is_w e) rfl rfl fun a2 h=>?_;cbv
   cases h;(cbv;(try simp only [e_rnil hR]);repeat' (first | exact trivial | exact rfl | exact Or.inr trivial | apply And.intro))
 refine L_if hE h (fun h=>?_) (fun h=>?_)<;>cbv
 · exact And.left (hQ _ _ _ rfl rfl (by cases h;subst hR;rfl))
 refine L_lit hR (e:=nodeRow) h (node_new hR) fun l3 e h=>?_;cbv at e;rw [e];clear e
 refine L_for hE lay_ok 3 (fun g:Int × CSet ×(List Node)× Int × Int × CSet × Bool × Int × Int × Int ×(List Node)× Nat=>[(8,.lst 2)]) (fun g=>[(1,.box 109 [fI .i64 g.1,fI .u64 (g.2.1.a.toNat:Int),fI .u64 (g.2.1.b.toNat:Int),fI .u64 (g.2.1.c.toNat:Int),fI .u64 (g.2.1.d.toNat:Int),.t (.slc (R _ nodeRow g.2.2.1)),fI .i64 g.2.2.2.1,fI .i64 g.2.2.2.2.1,fI .u64 (g.2.2.2.2.2.1.a.toNat:Int),fI .u64 (g.2.2.2.2.2.1.b.toNat:Int),fI .u64 (g.2.2.2.2.2.1.c.toNat:Int),fI .u64 (g.2.2.2.2.2.1.d.toNat:Int),fB g.2.2.2.2.2.2.1,fI .i64 g.2.2.2.2.2.2.2.1,fI .i64 g.2.2.2.2.2.2.2.2.1,fI .i64 g.2.2.2.2.2.2.2.2.2.1]),(2,.list 81 8 (R _ nodeRow g.2.2.2.2.2.2.2.2.2.2.1))]) (fun g=>r13_alt_l1 rec N p0 p2 g.2.2.2.2.2.2.2.2.2.2.2 g.1 g.2.1 g.2.2.1 g.2.2.2.1 g.2.2.2.2.1 g.2.2.2.2.2.1 g.2.2.2.2.2.2.1 g.2.2.2.2.2.2.2.1 g.2.2.2.2.2.2.2.2.1 g.2.2.2.2.2.2.2.2.2.1 g.2.2.2.2.2.2.2.2.2.2.1=some r) (fun g=>g.2.2.2.2.2.2.2.2.2.2.2) (_,_,_,_,_,_,_,_,_,_,_,N) h ?_ ?_
 · (cbv;(try simp only [e_rnil hR]);repeat' (first | exact trivial | exact rfl | exact Or.inr trivial | apply And.intro))
 rintro ⟨v4,v5,v6,v7,v8,v9,v10,v11,v12,v13,v14,m1⟩ h Q1 hN1 hT1 hX1
 have h:r13_alt_l1 rec N p0 p2 m1 v4 v5 v6 v7 v8 v9 v10 v11 v12 v13 v14=some r:=h
 cases m1 with
 | zero=>exact nomatch (show (none:Option _)=some _ from h)
 | succ m1=>
 rw [r13_alt_l1] at h
 rw [q_ar hE,q_cm hE] at h
 cbv
 refine L_call hE hR h (fun _ e=>r13_is_w e) rfl rfl fun a15 h=>?_;cbv
 refine L_if hE h (fun h=>?_) (fun h=>?_)<;>cbv
 · refine L_call hE hR h (fun _ e=>r13_cat_w (fun e=>hrec e) e) rfl rfl fun a16 h=>?_;cbv
   refine L_if hE h (fun h=>?_) (fun h=>?_)<;>cbv
   · refine hT1 _ ?_
     exact And.left (hQ _ _ _ rfl rfl (by cases h;subst hR;rfl))
   refine L_lit hR (e:=nodeRow) h (node_new hR) fun l17 e h=>?_;cbv at e;rw [e];clear e
   refine L_app hE hR h (hf _) nodeRow_len (by decide) fun l18 e h=>?_;cbv at e;rw [e];clear e
   refine hN1 _ (_,_,_,_,_,_,_,_,_,_,_,m1) [] h (Nat.lt_succ_self _) trivial ?_;(cbv;(try simp only [e_rnil hR]);repeat' (first | exact trivial | exact rfl | exact Or.inr trivial | apply And.intro))
 refine hX1 _ _ ?_;cbv
 refine L_ord hE lay_ok (by kernel_rfl) (.two 0 2 (.two 1 2 (.one 2 (.one 3 (.one 4 (.one 5 .done)))) (.two 1 3 (.one 3 (.one 4 (.one 5 .done))) (.one 1 (.one 4 (.one 5 .done))))) (.two 0 3 (.two 1 3 (.one 3 (.one 4 (.one 5 .done))) (.one 1 (.one 4 (.one 5 .done)))) (.one 0 (.one 1 (.one 4 (.one 5 .done)))))) (by kernel_rfl) (by decide) ?_;cbv;repeat' apply And.intro
 all_goals (refine L_give hE hR 2 h (fun _ e=>r13_join_w e) rfl rfl (hf _) rfl (by subst hR;rfl) fun a19 h=>?_;cbv;repeat' apply And.intro)
 all_goals (exact And.left (hQ _ _ _ rfl rfl (by cases h;subst hR;rfl)))
theorem r13_atom_w:∀{N:Nat} {p0:ByteArray} {p1:Int} {p2:Int} {r:Gr13_P},r13_atom_g N p0 p1 p2=some r→FunS Tryz.prog 162 [fS p0,fI .i64 p1,fI .i64 p2] (r13_atom_s rw) r:=by
 intro N
 induction N with
 | zero=>intros;rename_i h;exact nomatch (show (none:Option _)=some _ from h)
 | succ N ih=>
 intro p0 p1 p2 r h
 refine fun_w lay_ok Tryz.call162 Tryz.func162 rfl ?_
 intro A W E Q R hE hR hf hQ;rcases W with ⟨ar,cm,conj,cv,sl,sc,ct,sa,ss,ll,_,_,_,_,mi,mx,_,_,_⟩
 rw [r13_atom_g] at h
 rw [q_ar hE,q_cm hE,q_cv hE,q_sl hE,q_sa hE] at h
 cbv
 refine L_rgJ hE lay_ok h 1 (fun j1:Bool=>[(18,fB j1)]) (fun j1=>[]) (fun j1 h=>?_) (fun j1 h=>?_)<;>cbv
 · refine L_if hE h (fun h=>?_) (fun h=>?_)<;>cbv
   · cases h;(cbv;(try simp only [e_rnil hR]);repeat' (first | exact trivial | exact rfl | exact Or.inr trivial | apply And.intro))
   refine L_sin hE h fun h=>?_
   refine L_call hE hR h (fun _ e=>r13_among_w e) rfl rfl fun a1 h=>?_;cbv
   cases h;(cbv;(try simp only [e_rnil hR]);repeat' (first | exact trivial | exact rfl | exact Or.inr trivial | apply And.intro))
 refine L_if hE h (fun h=>?_) (fun h=>?_)<;>cbv
 · refine L_call hE hR h (fun _ e=>r13_other_w e) rfl rfl fun a2 h=>?_;cbv
   exact And.left (hQ _ _ _ rfl rfl (by cases h;subst hR;rfl))
 refine L_sin hE h fun h=>?_
 refine L_if hE h (fun h=>?_) (fun h=>?_)<;>cbv
 · refine L_if hE h (fun h=>?_) (fun h=>?_)<;>cbv
   · refine L_call hE hR h (fun _ e=>r13_bad_w e) rfl rfl fun a3 h=>?_;cbv
     exact And.left (hQ _ _ _ rfl rfl (by cases h;subst hR;rfl))
   refine L_call hE hR h (fun _ e=>r13_alt_w (fun e=>ih e) e) rfl rfl fun a4 h=>?_;cbv
   refine L_rgJ hE lay_ok h 2 (fun j2:Bool=>[(46,fB j2)]) (fun j2=>[]) (fun j2 h=>?_) (fun j2 h=>?_)<;>cbv
   · refine L_if hE h (fun h=>?_) (fun h=>?_)<;>cbv
     · refine L_call hE hR h (fun _ e=>r13_is_w e) rfl rfl fun a5 h=>?_;cbv
       cases h;(cbv;(try simp only [e_rnil hR]);repeat' (first | exact trivial | exact rfl | exact Or.inr trivial | apply And.intro))
     cases h;(cbv;(try simp only [e_rnil hR]);repeat' (first | exact trivial | exact rfl | exact Or.inr trivial | apply And.intro))
   refine L_if hE h (fun h=>?_) (fun h=>?_)<;>cbv
   · refine L_call hE hR h (fun _ e=>r13_other_w e) rfl rfl fun a6 h=>?_;cbv
     exact And.left (hQ _ _ _ rfl rfl (by cases h;subst hR;rfl))
   exact And.left (hQ _ _ _ rfl rfl (by cases h;subst hR;rfl))
 refine L_sin hE h fun h=>?_
 refine L_if hE h (fun h=>?_) (fun h=>?_)<;>cbv
 · refine L_call hE hR h (fun _ e=>r12_Between_w e) rfl rfl fun a7 h=>?_;cbv
   exact And.left (hQ _ _ _ rfl rfl (by cases h;subst hR;rfl))
 refine L_sin hE h fun h=>?_
 refine L_if hE h (fun h=>?_) (fun h=>?_)<;>cbv
 · refine L_call hE hR h (fun _ e=>r13_class_w e) rfl rfl fun a8 h=>?_;cbv
   exact And.left (hQ _ _ _ rfl rfl (by cases h;subst hR;rfl))
 refine L_sin hE h fun h=>?_
 refine L_if hE h (fun h=>?_) (fun h=>?_)<;>cbv
 · refine L_call hE hR h (fun _ e=>r13_escape_w e) rfl rfl fun a9 h=>?_;cbv
   refine L_if hE h (fun h=>?_) (fun h=>?_)<;>cbv
   · exact And.left (hQ _ _ _ rfl rfl (by cases h;subst hR;rfl))
   exact And.left (hQ _ _ _ rfl rfl (by cases h;subst hR;rfl))
 refine L_tail hE lay_ok (by kernel_rfl) 13 (by kernel_rfl) ?_;cbv
 refine L_sin hE h fun h=>?_
 refine L_sin hE h fun h=>?_
 refine L_pcall hE hR h (fun _ e=>r12_Between_w e) rfl rfl fun a10 h=>?_;cbv
 exact And.left (hQ _ _ _ rfl rfl (by cases h;subst hR;rfl))
theorem r13_Parse_w {N:Nat} {p0:ByteArray} {r:Node × GFault} (h:r13_Parse_g N p0=some r):FunS Tryz.prog 53 [fS p0] (r13_Parse_s rw) r:=by
 refine fun_w lay_ok Tryz.call53 Tryz.func53 rfl ?_
 intro A W E Q R hE hR hf hQ;rcases W with ⟨ar,cm,conj,cv,sl,sc,ct,sa,ss,ll,_,_,_,_,mi,mx,_,_,_⟩
 unfold r13_Parse_g at h
 rw [q_cm hE,q_sl hE] at h
 cbv
 refine L_if hE h (fun h=>?_) (fun h=>?_)<;>cbv
 · exact And.left (hQ _ _ _ rfl rfl (by cases h;subst hR;rfl))
 refine L_call hE hR h (fun _ e=>r13_alt_w (fun e=>r13_atom_w e) e) rfl rfl fun a1 h=>?_;cbv
 refine L_rgJ hE lay_ok h 3 (fun j1:Bool=>[(22,fB j1)]) (fun j1=>[]) (fun j1 h=>?_) (fun j1 h=>?_)<;>cbv
 · refine L_if hE h (fun h=>?_) (fun h=>?_)<;>cbv
   · cases h;(cbv;(try simp only [e_rnil hR]);repeat' (first | exact trivial | exact rfl | exact Or.inr trivial | apply And.intro))
   cases h;(cbv;(try simp only [e_rnil hR]);repeat' (first | exact trivial | exact rfl | exact Or.inr trivial | apply And.intro))
 refine L_cdJ hE lay_ok h 3 (fun j2:Int × CSet ×(List Node)× Int × Int × CSet × Bool × Int × Int × Int=>[]) (fun j2=>[(2,.box 109 [fI .i64 j2.1,fI .u64 (j2.2.1.a.toNat:Int),fI .u64 (j2.2.1.b.toNat:Int),fI .u64 (j2.2.1.c.toNat:Int),fI .u64 (j2.2.1.d.toNat:Int),.t (.slc (R _ nodeRow j2.2.2.1)),fI .i64 j2.2.2.2.1,fI .i64 j2.2.2.2.2.1,fI .u64 (j2.2.2.2.2.2.1.a.toNat:Int),fI .u64 (j2.2.2.2.2.2.1.b.toNat:Int),fI .u64 (j2.2.2.2.2.2.1.c.toNat:Int),fI .u64 (j2.2.2.2.2.2.1.d.toNat:Int),fB j2.2.2.2.2.2.2.1,fI .i64 j2.2.2.2.2.2.2.2.1,fI .i64 j2.2.2.2.2.2.2.2.2.1,fI .i64 j2.2.2.2.2.2.2.2.2.2])]) (fun j2 h=>?_) (fun j2 h=>?_)<;>cbv
 · refine L_if hE h (fun h=>?_) (fun h=>?_)<;>cbv
   · refine L_call hE hR h (fun _ e=>r13_other_w e) rfl rfl fun a2 h=>?_;cbv
     cases h;(cbv;(try simp only [e_rnil hR]);repeat' (first | exact trivial | exact rfl | exact Or.inr trivial | apply And.intro))
   cases h;(cbv;(try simp only [e_rnil hR]);repeat' (first | exact trivial | exact rfl | exact Or.inr trivial | apply And.intro))
 refine L_if hE h (fun h=>?_) (fun h=>?_)<;>cbv
 · refine L_ord hE lay_ok (by kernel_rfl) (.two 0 1 (.two 1 3 (.two 2 3 (.one 3 (.one 4 .done)) (.one 2 (.one 4 .done))) (.one 1 (.one 2 (.one 4 .done)))) (.two 0 2 (.two 2 3 (.one 3 (.one 4 .done)) (.one 2 (.one 4 .done))) (.one 0 (.one 3 (.one 4 .done))))) (by kernel_rfl) (by decide) ?_;cbv;repeat' apply And.intro
   all_goals (exact And.left (hQ _ _ _ rfl rfl (by cases h;subst hR;rfl)))
 exact And.left (hQ _ _ _ rfl rfl (by cases h;subst hR;rfl))
end Gn
end Go.Proofs.YtpplemjjeefpdaaGreatDoor
namespace Go.Proofs.YtpplemjjeefpdaaGreatDoor
open Go Go.RowKit
open Ab Sh
namespace Gn
theorem r15_cost_w:∀{N:Nat} {p0:Node} {p1:Int} {r:Int},r15_cost_g N p0 p1=some r→FunS Tryz.prog 86 [.agg [fI .i64 p0.kind,fI .u64 (p0.set.a.toNat:Int),fI .u64 (p0.set.b.toNat:Int),fI .u64 (p0.set.c.toNat:Int),fI .u64 (p0.set.d.toNat:Int),.t (.slc (rw _ nodeRow p0.kids)),fI .i64 p0.min,fI .i64 p0.max],fI .i64 p1] (r15_cost_s rw) r:=by
 intro N
 induction N with
 | zero=>intros;rename_i h;exact nomatch (show (none:Option _)=some _ from h)
 | succ N ih=>
 intro p0 p1 r h
 refine fun_w lay_ok Tryz.call86 Tryz.func86 rfl ?_
 intro A W E Q R hE hR hf hQ;rcases W with ⟨ar,cm,conj,cv,sl,sc,ct,sa,ss,ll,_,_,_,_,mi,mx,_,_,_⟩
 rw [←hR]
 rw [r15_cost_g] at h
 skip
 cbv
 refine L_for hE lay_ok 1 (fun g:Int × Int × Nat=>[(4,fI .i64 0),(5,fI .i64 g.1),(6,fI .i64 g.2.1)]) (fun g=>[]) (fun g=>r15_cost_l1 (r15_cost_g N) p0 p1 g.2.2 g.1 g.2.1=some r) (fun g=>g.2.2) (_,_,N) h ?_ ?_
 · (cbv;(try simp only [e_rnil hR]);repeat' (first | exact trivial | exact rfl | exact Or.inr trivial | apply And.intro))
 rintro ⟨v1,v2,m1⟩ h Q1 hN1 hT1 hX1
 have h:r15_cost_l1 (r15_cost_g N) p0 p1 m1 v1 v2=some r:=h
 cases m1 with
 | zero=>exact nomatch (show (none:Option _)=some _ from h)
 | succ m1=>
 rw [r15_cost_l1] at h
 rw [q_ar hE,q_cm hE,q_ll hE,←hR] at h
 cbv
 refine L_if hE h (fun h=>?_) (fun h=>?_)<;>cbv
 · refine L_rowN hE hR h fun r3 h=>?_;cbv
   refine L_call hE hR h (fun _ e=>ih e) (by subst hR;rfl) rfl fun a4 h=>?_;cbv
   refine L_if hE h (fun h=>?_) (fun h=>?_)<;>cbv
   · refine hT1 _ ?_
     exact And.left (hQ _ _ _ rfl rfl (by cases h;subst hR;rfl))
   refine hN1 _ (_,_,m1) [] h (Nat.lt_succ_self _) trivial ?_;(cbv;(try simp only [e_rnil hR]);repeat' (first | exact trivial | exact rfl | exact Or.inr trivial | apply And.intro))
 refine hX1 _ _ ?_;cbv
 refine L_rgJ hE lay_ok h 1 (fun j4:Bool=>[(33,fB j4)]) (fun j4=>[]) (fun j4 h=>?_) (fun j4 h=>?_)<;>cbv
 · refine L_if hE h (fun h=>?_) (fun h=>?_)<;>cbv
   · cases h;(cbv;(try simp only [e_rnil hR]);repeat' (first | exact trivial | exact rfl | exact Or.inr trivial | apply And.intro))
   cases h;(cbv;(try simp only [e_rnil hR]);repeat' (first | exact trivial | exact rfl | exact Or.inr trivial | apply And.intro))
 refine L_if hE h (fun h=>?_) (fun h=>?_)<;>cbv
 · exact And.left (hQ _ _ _ rfl rfl (by cases h;subst hR;rfl))
 refine L_rgJ hE lay_ok h 1 (fun j5:Bool=>[(55,fB j5)]) (fun j5=>[]) (fun j5 h=>?_) (fun j5 h=>?_)<;>cbv
 · refine L_if hE h (fun h=>?_) (fun h=>?_)<;>cbv
   · refine L_if hE h (fun h=>?_) (fun h=>?_)<;>cbv
     · refine L_if hE h (fun h=>?_) (fun h=>?_)<;>cbv
       · cases h;(cbv;(try simp only [e_rnil hR]);repeat' (first | exact trivial | exact rfl | exact Or.inr trivial | apply And.intro))
       cases h;(cbv;(try simp only [e_rnil hR]);repeat' (first | exact trivial | exact rfl | exact Or.inr trivial | apply And.intro))
     cases h;(cbv;(try simp only [e_rnil hR]);repeat' (first | exact trivial | exact rfl | exact Or.inr trivial | apply And.intro))
   cases h;(cbv;(try simp only [e_rnil hR]);repeat' (first | exact trivial | exact rfl | exact Or.inr trivial | apply And.intro))
 refine L_if hE h (fun h=>?_) (fun h=>?_)<;>cbv
 · exact And.left (hQ _ _ _ rfl rfl (by cases h;subst hR;rfl))
 refine L_rgJ hE lay_ok h 1 (fun j6:Bool=>[(77,fB j6)]) (fun j6=>[]) (fun j6 h=>?_) (fun j6 h=>?_)<;>cbv
 · refine L_if hE h (fun h=>?_) (fun h=>?_)<;>cbv
   · refine L_if hE h (fun h=>?_) (fun h=>?_)<;>cbv
     · cases h;(cbv;(try simp only [e_rnil hR]);repeat' (first | exact trivial | exact rfl | exact Or.inr trivial | apply And.intro))
     cases h;(cbv;(try simp only [e_rnil hR]);repeat' (first | exact trivial | exact rfl | exact Or.inr trivial | apply And.intro))
   cases h;(cbv;(try simp only [e_rnil hR]);repeat' (first | exact trivial | exact rfl | exact Or.inr trivial | apply And.intro))
 refine L_if hE h (fun h=>?_) (fun h=>?_)<;>cbv
 · exact And.left (hQ _ _ _ rfl rfl (by cases h;subst hR;rfl))
 exact And.left (hQ _ _ _ rfl rfl (by cases h;subst hR;rfl))
theorem r15_Great_w {N:Nat} {p0:Node} {p1:Int} {r:Bool} (h:r15_Great_g N p0 p1=some r):FunS Tryz.prog 54 [.agg [fI .i64 p0.kind,fI .u64 (p0.set.a.toNat:Int),fI .u64 (p0.set.b.toNat:Int),fI .u64 (p0.set.c.toNat:Int),fI .u64 (p0.set.d.toNat:Int),.t (.slc (rw _ nodeRow p0.kids)),fI .i64 p0.min,fI .i64 p0.max],fI .i64 p1] (r15_Great_s rw) r:=by
 refine fun_w lay_ok Tryz.call54 Tryz.func54 rfl ?_
 intro A W E Q R hE hR hf hQ;rcases W with ⟨ar,cm,conj,cv,sl,sc,ct,sa,ss,ll,_,_,_,_,mi,mx,_,_,_⟩
 rw [←hR]
 unfold r15_Great_g at h
 rw [q_cm hE] at h
 cbv
 refine L_call hE hR h (fun _ e=>r15_cost_w e) (by subst hR;rfl) rfl fun a1 h=>?_;cbv
 exact And.left (hQ _ _ _ rfl rfl (by cases h;subst hR;rfl))
theorem r22_Great_w {N:Nat} {p0:GMatcher} {p1:Int} {r:Bool} (h:r22_Great_g N p0 p1=some r):FunS Tryz.prog 27 [.agg [fS p0.Name,fI .i64 p0.Op,fS p0.Value],fI .i64 p1] (r22_Great_s rw) r:=by
 refine fun_w lay_ok Tryz.call27 Tryz.func27 rfl ?_
 intro A W E Q R hE hR hf hQ;rcases W with ⟨ar,cm,conj,cv,sl,sc,ct,sa,ss,ll,_,_,_,_,mi,mx,_,_,_⟩
 unfold r22_Great_g at h
 rw [q_cm hE,q_sl hE] at h
 cbv
 refine L_if hE h (fun h=>?_) (fun h=>?_)<;>cbv
 · refine L_rgJ hE lay_ok h 1 (fun j1:Bool=>[(4,fB j1)]) (fun j1=>[]) (fun j1 h=>?_) (fun j1 h=>?_)<;>cbv
   · refine L_if hE h (fun h=>?_) (fun h=>?_)<;>cbv
     · cases h;(cbv;(try simp only [e_rnil hR]);repeat' (first | exact trivial | exact rfl | exact Or.inr trivial | apply And.intro))
     cases h;(cbv;(try simp only [e_rnil hR]);repeat' (first | exact trivial | exact rfl | exact Or.inr trivial | apply And.intro))
   exact And.left (hQ _ _ _ rfl rfl (by cases h;subst hR;rfl))
 refine L_rgJ hE lay_ok h 1 (fun j2:Bool=>[(33,fB j2)]) (fun j2=>[]) (fun j2 h=>?_) (fun j2 h=>?_)<;>cbv
 · refine L_if hE h (fun h=>?_) (fun h=>?_)<;>cbv
   · cases h;(cbv;(try simp only [e_rnil hR]);repeat' (first | exact trivial | exact rfl | exact Or.inr trivial | apply And.intro))
   refine L_if hE h (fun h=>?_) (fun h=>?_)<;>cbv
   · cases h;(cbv;(try simp only [e_rnil hR]);repeat' (first | exact trivial | exact rfl | exact Or.inr trivial | apply And.intro))
   cases h;(cbv;(try simp only [e_rnil hR]);repeat' (first | exact trivial | exact rfl | exact Or.inr trivial | apply And.intro))
 refine L_if hE h (fun h=>?_) (fun h=>?_)<;>cbv
 · exact And.left (hQ _ _ _ rfl rfl (by cases h;subst hR;rfl))
 refine L_call hE hR h (fun _ e=>r13_Parse_w e) rfl rfl fun a1 h=>?_;cbv
 refine L_rgJ hE lay_ok h 3 (fun j3:Bool=>[(4,fB j3)]) (fun j3=>[]) (fun j3 h=>?_) (fun j3 h=>?_)<;>cbv
 · refine L_if hE h (fun h=>?_) (fun h=>?_)<;>cbv
   · refine L_call hE hR h (fun _ e=>r15_Great_w e) (by subst hR;rfl) rfl fun a2 h=>?_;cbv
     cases h;(cbv;(try simp only [e_rnil hR]);repeat' (first | exact trivial | exact rfl | exact Or.inr trivial | apply And.intro))
   cases h;(cbv;(try simp only [e_rnil hR]);repeat' (first | exact trivial | exact rfl | exact Or.inr trivial | apply And.intro))
 exact And.left (hQ _ _ _ rfl rfl (by cases h;subst hR;rfl))
theorem r23_Great_w {N : Nat} {p0:List GMatcher} {p1:List GLabel} {r:Bool} (h:r23_Great_g N p0 p1=some r):FunS Tryz.prog 7 [.t (.slc (rw _ cMatcher p0)),.t (.slc (rw _ cLabel p1))] (r23_Great_s rw) r:=by
 refine fun_w lay_ok Tryz.call7 Tryz.func7 rfl ?_
 intro A W E Q R hE hR hf hQ;rcases W with ⟨ar,cm,conj,cv,sl,sc,ct,sa,ss,ll,_,_,_,_,mi,mx,_,_,_⟩
 rw [←hR]
 unfold r23_Great_g at h
 rw [q_cm hE,q_ll hE,←hR] at h
 cbv
 refine L_rgJ hE lay_ok h 0 (fun j1:Bool=>[(14,fB j1)]) (fun j1=>[]) (fun j1 h=>?_) (fun j1 h=>?_)<;>cbv
 · refine L_if hE h (fun h=>?_) (fun h=>?_)<;>cbv
   · cases h;(cbv;(try simp only [e_rnil hR]);repeat' (first | exact trivial | exact rfl | exact Or.inr trivial | apply And.intro))
   cases h;(cbv;(try simp only [e_rnil hR]);repeat' (first | exact trivial | exact rfl | exact Or.inr trivial | apply And.intro))
 refine L_if hE h (fun h=>?_) (fun h=>?_)<;>cbv
 · exact And.left (hQ _ _ _ rfl rfl (by cases h;subst hR;rfl))
 refine L_for hE lay_ok 0 (fun g:Int × Nat=>[(5,fI .i64 g.1)]) (fun g=>[]) (fun g=>r23_Great_l1 N p0 p1 g.2 g.1=some r) (fun g=>g.2) (_,N) h ?_ ?_
 · (cbv;(try simp only [e_rnil hR]);repeat' (first | exact trivial | exact rfl | exact Or.inr trivial | apply And.intro))
 rintro ⟨v1,m1⟩ h Q1 hN1 hT1 hX1
 have h:r23_Great_l1 N p0 p1 m1 v1=some r:=h
 cases m1 with
 | zero=>exact nomatch (show (none:Option _)=some _ from h)
 | succ m1=>
 rw [r23_Great_l1] at h
 rw [q_cm hE,q_ll hE,←hR] at h
 cbv
 refine L_if hE h (fun h=>?_) (fun h=>?_)<;>cbv
 · refine L_row hE hR h fun r2 h=>?_;cbv
   refine L_call hE hR h (fun _ e=>r22_Great_w e) rfl rfl fun a3 h=>?_;cbv
   refine L_if hE h (fun h=>?_) (fun h=>?_)<;>cbv
   · refine hT1 _ ?_
     exact And.left (hQ _ _ _ rfl rfl (by cases h;subst hR;rfl))
   refine L_for hE lay_ok 0 (fun g:Int × Nat=>[(6,fI .i64 g.1)]) (fun g=>[]) (fun g=>r23_Great_l2 N (r23_Great_l1 N p0 p1 m1) p0 p1 v1 g.2 g.1=some r) (fun g=>g.2) (_,N) h ?_ ?_
   · (cbv;(try simp only [e_rnil hR]);repeat' (first | exact trivial | exact rfl | exact Or.inr trivial | apply And.intro))
   rintro ⟨v4,m2⟩ h Q2 hN2 hT2 hX2
   have h:r23_Great_l2 N (r23_Great_l1 N p0 p1 m1) p0 p1 v1 m2 v4=some r:=h
   cases m2 with
   | zero=>exact nomatch (show (none:Option _)=some _ from h)
   | succ m2=>
   rw [r23_Great_l2] at h
   rw [q_ar hE,q_cm hE,q_sl hE,q_sc hE,q_ll hE,←hR] at h
   cbv
   refine L_if hE h (fun h=>?_) (fun h=>?_)<;>cbv
   · refine L_whole hE lay_ok (by kernel_rfl) (by kernel_rfl) ?_;cbv
     refine L_row hE hR h fun r5 h=>?_;cbv
     refine L_row hE hR h fun r6 h=>?_;cbv
     refine L_if hE h (fun h=>?_) (fun h=>?_)<;>cbv
     · refine L_if hE h (fun h =>?_) (fun h=>?_)<;>cbv
       · refine L_if hE h (fun h=>?_) (fun h=>?_)<;>cbv
         · refine L_row hE hR h fun r7 h=>?_;cbv
           refine L_if hE h (fun h=>?_) (fun h=>?_)<;>cbv
           · refine L_if hE h (fun h=>?_) (fun h=>?_)<;>cbv
             · refine L_if hE h (fun h=>?_) (fun h=>?_)<;>cbv
               · refine L_if hE h (fun h=>?_) (fun h=>?_)<;>cbv
                 · refine L_row hE hR h fun r8 h=>?_;cbv
                   refine L_if hE h (fun h=>?_) (fun h=>?_)<;>cbv
                   · refine L_if hE h (fun h=>?_) (fun h=>?_)<;>cbv
                     · refine L_if hE h (fun h=>?_) (fun h=>?_)<;>cbv
                       · refine L_if hE h (fun h=>?_) (fun h=>?_)<;>cbv
                         · refine L_pcall hE hR h (fun _ e=>r22_Great_w e) rfl rfl fun a9 h=>?_;cbv
                           refine L_if hE h (fun h=>?_) (fun h=>?_)<;>cbv
                           · refine L_if hE h (fun h=>?_) (fun h=>?_)<;>cbv
                             · refine hT2 _ ?_
                               refine hT1 _ ?_
                               exact And.left (hQ _ _ _ rfl rfl (by cases h;subst hR;rfl))
                             refine hN2 _ (_,m2) [] h (Nat.lt_succ_self _) trivial ?_;(cbv;(try simp only [e_rnil hR]);repeat' (first | exact trivial | exact rfl | exact Or.inr trivial | apply And.intro))
                           exact nomatch h
                         exact nomatch h
                       exact nomatch h
                     exact nomatch h
                   exact nomatch h
                 exact nomatch h
               exact nomatch h
             exact nomatch h
           exact nomatch h
         exact nomatch h
       exact nomatch h
     refine L_if hE h (fun h=>?_) (fun h=>?_)<;>cbv
     · exact nomatch h
     refine L_if hE h (fun h=>?_) (fun h=>?_)<;>cbv
     · exact nomatch h
     refine L_if hE h (fun h=>?_) (fun h=>?_)<;>cbv
     · exact nomatch h
     refine L_if hE h (fun h=>?_) (fun h=>?_)<;>cbv
     · exact nomatch h
     refine L_if hE h (fun h=>?_) (fun h=>?_)<;>cbv
     · exact nomatch h
     refine L_if hE h (fun h=>?_) (fun h=>?_)<;>cbv
     · exact nomatch h
     refine L_if hE h (fun h=>?_) (fun h=>?_)<;>cbv
     · exact nomatch h
     refine L_if hE h (fun h=>?_) (fun h=>?_)<;>cbv
     · exact nomatch h
     refine L_if hE h (fun h=>?_) (fun h=>?_)<;>cbv
     · exact nomatch h
     refine L_if hE h (fun h=>?_) (fun h=>?_)<;>cbv
     · exact nomatch h
     refine L_if hE h (fun h=>?_) (fun h=>?_)<;>cbv
     · exact nomatch h
     refine L_f hE ?_;cbv
     refine hN2 _ (_,m2) [] h (Nat.lt_succ_self _) trivial ?_;(cbv;(try simp only [e_rnil hR]);repeat' (first | exact trivial | exact rfl | exact Or.inr trivial | apply And.intro))
   refine hX2 _ _ ?_;cbv
   refine hN1 _ (_,m1) [] h (Nat.lt_succ_self _) trivial ?_;(cbv;(try simp only [e_rnil hR]);repeat' (first | exact trivial | exact rfl | exact Or.inr trivial | apply And.intro))
 refine hX1 _ _ ?_;cbv
 exact And.left (hQ _ _ _ rfl rfl (by cases h;subst hR;rfl))
theorem selector_wrong_w {p0:ByteArray} {p1:Int} {r:GFault} (h:selector_wrong_g p0 p1=some r):FunS Tryz.prog 28 [fS p0,fI .i64 p1] (selector_wrong_s rw) r:=by
 refine fun_w lay_ok Tryz.call28 Tryz.func28 rfl ?_
 intro A W E Q R hE hR hf hQ;rcases W with ⟨ar,cm,conj,cv,sl,sc,ct,sa,ss,ll,_,_,_,_,mi,mx,_,_,_⟩
 unfold selector_wrong_g at h
 rw [q_cm hE,q_sl hE] at h
 cbv
 refine L_if hE h (fun h=>?_) (fun h=>?_)<;>cbv
 · exact And.left (hQ _ _ _ rfl rfl (by cases h;subst hR;rfl))
 exact And.left (hQ _ _ _ rfl rfl (by cases h;subst hR;rfl))
end Gn
end Go.Proofs.YtpplemjjeefpdaaGreatDoor
namespace Go.Proofs.YtpplemjjeefpdaaGreatDoor
open Go Go.RowKit
open Ab Sh
namespace Gn
theorem internal_stringslite_HasPrefix_w {p0:ByteArray} {p1:ByteArray} {r:Bool} (h:internal_stringslite_HasPrefix_g p0 p1=some r):FunS Tryz.prog 55 [fS p0,fS p1] (internal_stringslite_HasPrefix_s rw) r:=by
 refine fun_w lay_ok Tryz.call55 Tryz.func55 rfl ?_
 intro A W E Q R hE hR hf hQ;rcases W with ⟨ar,cm,conj,cv,sl,sc,ct,sa,ss,ll,_,_,_,_,mi,mx,_,_,_⟩
 unfold internal_stringslite_HasPrefix_g at h
 rw [q_cm hE,q_sl hE,q_sc hE,q_ss hE] at h
 cbv
 refine L_rgJ hE lay_ok h 0 (fun j1:Bool=>[(4,fB j1)]) (fun j1=>[]) (fun j1 h=>?_) (fun j1 h=>?_)<;>cbv
 · refine L_if hE h (fun h=>?_) (fun h=>?_)<;>cbv
   · refine L_ssin hE h fun h=>?_
     cases h;(cbv;(try simp only [e_rnil hR]);repeat' (first | exact trivial | exact rfl | exact Or.inr trivial | apply And.intro))
   cases h;(cbv;(try simp only [e_rnil hR]);repeat' (first | exact trivial | exact rfl | exact Or.inr trivial | apply And.intro))
 exact And.left (hQ _ _ _ rfl rfl (by cases h;subst hR;rfl))
theorem strings_HasPrefix_w {p0:ByteArray} {p1:ByteArray} {r:Bool} (h:strings_HasPrefix_g p0 p1=some r):FunS Tryz.prog 29 [fS p0,fS p1] (strings_HasPrefix_s rw) r:=by
 refine fun_w lay_ok Tryz.call29 Tryz.func29 rfl ?_
 intro A W E Q R hE hR hf hQ;rcases W with ⟨ar,cm,conj,cv,sl,sc,ct,sa,ss,ll,_,_,_,_,mi,mx,_,_,_⟩
 unfold strings_HasPrefix_g at h
 skip
 cbv
 refine L_call hE hR h (fun _ e=>internal_stringslite_HasPrefix_w e) rfl rfl fun a1 h=>?_;cbv
 exact And.left (hQ _ _ _ rfl rfl (by cases h;subst hR;rfl))
theorem name_letter_w {p0:Int} {r:Bool} (h:name_letter_g p0=some r):FunS Tryz.prog 87 [fI .i32 p0] (name_letter_s rw) r:=by
 refine fun_w lay_ok Tryz.call87 Tryz.func87 rfl ?_
 intro A W E Q R hE hR hf hQ;rcases W with ⟨ar,cm,conj,cv,sl,sc,ct,sa,ss,ll,_,_,_,_,mi,mx,_,_,_⟩
 unfold name_letter_g at h
 rw [q_cm hE] at h
 cbv
 refine L_rgJ hE lay_ok h 0 (fun j1:Bool=>[(2,fB j1)]) (fun j1=>[]) (fun j1 h=>?_) (fun j1 h=>?_)<;>cbv
 · refine L_if hE h (fun h=>?_) (fun h=>?_)<;>cbv
   · cases h;(cbv;(try simp only [e_rnil hR]);repeat' (first | exact trivial | exact rfl | exact Or.inr trivial | apply And.intro))
   refine L_if hE h (fun h=>?_) (fun h=>?_)<;>cbv
   · refine L_if hE h (fun h=>?_) (fun h=>?_)<;>cbv
     · cases h;(cbv;(try simp only [e_rnil hR]);repeat' (first | exact trivial | exact rfl | exact Or.inr trivial | apply And.intro))
     refine L_if hE h (fun h=>?_) (fun h=>?_)<;>cbv
     · cases h;(cbv;(try simp only [e_rnil hR]);repeat' (first | exact trivial | exact rfl | exact Or.inr trivial | apply And.intro))
     cases h;(cbv;(try simp only [e_rnil hR]);repeat' (first | exact trivial | exact rfl | exact Or.inr trivial | apply And.intro))
   refine L_if hE h (fun h=>?_) (fun h=>?_)<;>cbv
   · cases h;(cbv;(try simp only [e_rnil hR]);repeat' (first | exact trivial | exact rfl | exact Or.inr trivial | apply And.intro))
   cases h;(cbv;(try simp only [e_rnil hR]);repeat' (first | exact trivial | exact rfl | exact Or.inr trivial | apply And.intro))
 exact And.left (hQ _ _ _ rfl rfl (by cases h;subst hR;rfl))
theorem name_digit_w {p0:Int} {r:Bool} (h:name_digit_g p0=some r):FunS Tryz.prog 88 [fI .i32 p0] (name_digit_s rw) r:=by
 refine fun_w lay_ok Tryz.call88 Tryz.func88 rfl ?_
 intro A W E Q R hE hR hf hQ;rcases W with ⟨ar,cm,conj,cv,sl,sc,ct,sa,ss,ll,_,_,_,_,mi,mx,_,_,_⟩
 unfold name_digit_g at h
 rw [q_cm hE] at h
 cbv
 refine L_rgJ hE lay_ok h 0 (fun j1:Bool=>[(2,fB j1)]) (fun j1=>[]) (fun j1 h=>?_) (fun j1 h=>?_)<;>cbv
 · refine L_if hE h (fun h=>?_) (fun h=>?_)<;>cbv
   · cases h;(cbv;(try simp only [e_rnil hR]);repeat' (first | exact trivial | exact rfl | exact Or.inr trivial | apply And.intro))
   cases h;(cbv;(try simp only [e_rnil hR]);repeat' (first | exact trivial | exact rfl | exact Or.inr trivial | apply And.intro))
 exact And.left (hQ _ _ _ rfl rfl (by cases h;subst hR;rfl))
theorem name_Label_w {N:Nat} {p0:ByteArray} {r:Bool} (h:name_Label_g N p0=some r):FunS Tryz.prog 57 [fS p0] (name_Label_s rw) r:=by
 refine fun_w lay_ok Tryz.call57 Tryz.func57 rfl ?_
 intro A W E Q R hE hR hf hQ;rcases W with ⟨ar,cm,conj,cv,sl,sc,ct,sa,ss,ll,_,_,_,_,mi,mx,_,_,_⟩
 unfold name_Label_g at h
 rw [q_cm hE,q_sl hE,q_sc hE] at h
 cbv
 refine L_rgJ hE lay_ok h 0 (fun j1:Bool=>[(11,fB j1)]) (fun j1=>[]) (fun j1 h=>?_) (fun j1 h=>?_)<;>cbv
 · refine L_if hE h (fun h=>?_) (fun h=>?_)<;>cbv
   · cases h;(cbv;(try simp only [e_rnil hR]);repeat' (first | exact trivial | exact rfl | exact Or.inr trivial | apply And.intro))
   cases h;(cbv;(try simp only [e_rnil hR]);repeat' (first | exact trivial | exact rfl | exact Or.inr trivial | apply And.intro))
 refine L_if hE h (fun h=>?_) (fun h=>?_)<;>cbv
 · exact And.left (hQ _ _ _ rfl rfl (by cases h;subst hR;rfl))
 refine L_for hE lay_ok 1 (fun g:Int × Nat=>[(2,fB false)]) (fun g=>[(0,.iter p0 g.1)]) (fun g=>name_Label_l1 p0 g.2 g.1=some r) (fun g=>g.2) (_,N) h ?_ ?_
 · (cbv;(try simp only [e_rnil hR]);repeat' (first | exact trivial | exact rfl | exact Or.inr trivial | apply And.intro))
 rintro ⟨v1,m1⟩ h Q1 hN1 hT1 hX1
 have h:name_Label_l1 p0 m1 v1=some r:=h
 cases m1 with
 | zero=>exact nomatch (show (none:Option _)=some _ from h)
 | succ m1=>
 rw [name_Label_l1] at h
 rw [q_cm hE] at h
 cbv
 refine L_nx hE h (fun q2 c3 h=>?_) (fun h=>?_)<;>cbv
 · refine L_t hE ?_;cbv
   refine L_rgJ hE lay_ok h 1 (fun j4:Bool=>[(29,fB j4)]) (fun j4=>[]) (fun j4 h=>?_) (fun j4 h=>?_)<;>cbv
   · refine L_call hE hR h (fun _ e=>name_letter_w e) rfl rfl fun a4 h=>?_;cbv
     refine L_if hE h (fun h=>?_) (fun h=>?_)<;>cbv
     · refine L_if hE h (fun h=>?_) (fun h=>?_)<;>cbv
       · cases h;(cbv;(try simp only [e_rnil hR]);repeat' (first | exact trivial | exact rfl | exact Or.inr trivial | apply And.intro))
       refine L_call hE hR h (fun _ e=>name_digit_w e) rfl rfl fun a5 h=>?_;cbv
       cases h;(cbv;(try simp only [e_rnil hR]);repeat' (first | exact trivial | exact rfl | exact Or.inr trivial | apply And.intro))
     cases h;(cbv;(try simp only [e_rnil hR]);repeat' (first | exact trivial | exact rfl | exact Or.inr trivial | apply And.intro))
   refine L_if hE h (fun h=>?_) (fun h=>?_)<;>cbv
   · refine hT1 _ ?_
     exact And.left (hQ _ _ _ rfl rfl (by cases h;subst hR;rfl))
   refine hN1 _ (_,m1) [] h (Nat.lt_succ_self _) trivial ?_;(cbv;(try simp only [e_rnil hR]);repeat' (first | exact trivial | exact rfl | exact Or.inr trivial | apply And.intro))
 refine L_f hE ?_;cbv
 refine hX1 _ _ ?_;cbv
 exact And.left (hQ _ _ _ rfl rfl (by cases h;subst hR;rfl))
end Gn
end Go.Proofs.YtpplemjjeefpdaaGreatDoor
