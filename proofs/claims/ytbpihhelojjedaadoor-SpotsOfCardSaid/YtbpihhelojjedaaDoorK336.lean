/- Texts that the proof leans on. -/
import Derived.Test.YtbpihhelojjedaaDoorK335
import Derived.ChangeArms
import Derived.OpenShut
import Derived.DataReads
import Derived.WideShapes
import Derived.Deep.Slices
import Derived.Laws.OwnMore
import Derived.Laws.AppendOwn
import Derived.Test.YtbpihhelojjedaaDoorK333
set_option linter.unusedVariables false
set_option linter.unusedSimpArgs false
set_option maxRecDepth 100000
set_option maxHeartbeats 4000000
namespace Go.Proofs.YtbpihhelojjedaaDoor
open Go Go.RowKit
open Ab Sh
namespace Gn
theorem grp_r16_write:∀N:Nat,(∀{p0:Node} {p1:Gr16_W} {p2:Int} {r:Gr16_W},r16_rest_g N p0 p1 p2=some r→FunS Tryd.prog 51 [.agg [fI .i64 p0.kind,fI .u64 (p0.set.a.toNat:Int),fI .u64 (p0.set.b.toNat:Int),fI .u64 (p0.set.c.toNat:Int),fI .u64 (p0.set.d.toNat:Int),.t (.slc (rw _ nodeRow p0.kids)),fI .i64 p0.min,fI .i64 p0.max],.agg [.t (.slc (rw _ cSet p1.Sets)),.t (.slc (rw _ (cLs (cI .i64)) p1.Next)),.t (.slc (rw _ (cI .i64) p1.First)),.t (.slc (rw _ (cI .i64) p1.Last)),fB p1.None],fI .i64 p2] (r16_rest_s rw) r)∧
 (∀{p0:Node} {p1:Gr16_W} {r:Gr16_W},r16_write_g N p0 p1=some r→FunS Tryd.prog 36 [.agg [fI .i64 p0.kind,fI .u64 (p0.set.a.toNat:Int),fI .u64 (p0.set.b.toNat:Int),fI .u64 (p0.set.c.toNat:Int),fI .u64 (p0.set.d.toNat:Int),.t (.slc (rw _ nodeRow p0.kids)),fI .i64 p0.min,fI .i64 p0.max],.agg [.t (.slc (rw _ cSet p1.Sets)),.t (.slc (rw _ (cLs (cI .i64)) p1.Next)),.t (.slc (rw _ (cI .i64) p1.First)),.t (.slc (rw _ (cI .i64) p1.Last)),fB p1.None]] (r16_write_s rw) r):=by
 intro N
 induction N with
 | zero=>exact ⟨(fun h=>nomatch (show (none:Option _)=some _ from h)),(fun h=>nomatch (show (none:Option _)=some _ from h))⟩
 | succ N ih=>
 refine ⟨?_,?_⟩
 · intro p0 p1 p2 r h
   refine fun_w lay_ok Tryd.call51 Tryd.func51 rfl ?_
   intro A W E Q R hE hR hf hQ;rcases W with ⟨ar,cm,conj,cv,sl,sc,ct,sa,ss,ll,_,_,_,_,mi,mx,_,_,_,_,_⟩
   rw [←hR]
   rw [r16_rest_g] at h
   rw [q_ar hE,q_cm hE] at h
   cbv
   refine L_if hE h (fun h=>?_) (fun h=>?_)<;>cbv
   · exact And.left (hQ _ _ _ rfl rfl (by cases h;subst hR;rfl))
   refine L_call hE hR h (fun _ e=>(ih.2) e) (by subst hR;rfl) rfl fun a1 h=>?_;cbv
   refine L_tail hE lay_ok (by kernel_rfl) 8 (by kernel_rfl) ?_;cbv
   refine L_pcall hE hR h (fun _ e=>(ih.1) e) (by subst hR;rfl) rfl fun a2 h=>?_;cbv
   refine L_pcall hE hR h (fun _ e=>r16_behind_w e) (by subst hR;rfl) rfl fun a3 h=>?_;cbv
   exact And.left (hQ _ _ _ rfl rfl (by cases h;subst hR;rfl))
 · intro p0 p1 r h
   refine fun_w lay_ok Tryd.call36 Tryd.func36 rfl ?_
   intro A W E Q R hE hR hf hQ;rcases W with ⟨ar,cm,conj,cv,sl,sc,ct,sa,ss,ll,_,_,_,_,mi,mx,_,_,_,_,_⟩
   rw [←hR]
   rw [r16_write_g] at h
   rw [q_cm hE,q_ll hE,←hR] at h
   cbv
   refine L_if hE h (fun h=>?_) (fun h=>?_)<;>cbv
   · obtain ⟨l1,el1,h⟩:=conv_some h
     obtain ⟨l2,el2,h⟩:=conv_some h
     obtain ⟨l3,el3,h⟩:=conv_some h
     obtain ⟨l4,el4,h⟩:=conv_some h
     refine L_fxE hE lay_ok (by kernel_rfl) 18 [⟨3,3,32,4,[],R _ cSet p1.Sets,R _ cSet l1,none,.t (.slc (R _ cSet p1.Sets))⟩,⟨7,3,32,4,R _ cSet l1,[[.flat (.int .u64 (p0.set.a.toNat:Int)),.flat (.int .u64 (p0.set.b.toNat:Int)),.flat (.int .u64 (p0.set.c.toNat:Int)),.flat (.int .u64 (p0.set.d.toNat:Int))]],R _ cSet l2,(some 9),.lst 9⟩,⟨11,11,23,1,[],R _ (cLs (cI .i64)) p1.Next,R _ (cLs (cI .i64)) l3,none,.t (.slc (R _ (cLs (cI .i64)) p1.Next))⟩,⟨13,11,23,1,R _ (cLs (cI .i64)) l3,[[.slc []]],R _ (cLs (cI .i64)) l4,(some 15),.lst 15⟩] [4,5,6,8,9,10,12,14,15,16,17] [some (.box 35 [fI .i64 p0.kind,fI .u64 (p0.set.a.toNat:Int),fI .u64 (p0.set.b.toNat:Int),fI .u64 (p0.set.c.toNat:Int),fI .u64 (p0.set.d.toNat:Int),.t (.slc (R _ nodeRow p0.kids)),fI .i64 p0.min,fI .i64 p0.max]),some (.box 65 [.t (.slc (R _ cSet p1.Sets)),.t (.slc (R _ (cLs (cI .i64)) p1.Next)),.t (.slc (R _ (cI .i64) p1.First)),.t (.slc (R _ (cI .i64) p1.Last)),fB p1.None])] ⟨ap_ok hE hR el1 rfl (by subst hR;rfl) rfl (hf _) (fun _=>rfl) rfl rfl rfl rfl rfl rfl rfl rfl rfl (by decide) rfl (by decide),ap_ok hE hR el2 (by subst hR;rfl) rfl rfl (hf _) (fun _=>rfl) rfl rfl rfl rfl rfl rfl rfl rfl rfl (by decide) rfl (by decide),ap_ok hE hR el3 rfl (by subst hR;rfl) rfl (hf _) (fun _=>rfl) rfl rfl rfl rfl rfl rfl rfl rfl rfl (by decide) rfl (by decide),ap_ok hE hR el4 (by subst hR;rfl) (by subst hR;rfl) rfl (hf _) (fun _=>rfl) rfl rfl rfl rfl rfl rfl rfl rfl rfl (by decide) rfl (by decide),trivial⟩ (by kernel_rfl) (by kernel_rfl) rfl (by cbv;repeat' (first | exact rfl | trivial | apply And.intro)) (by cbv;repeat' (first | exact rfl | trivial | apply And.intro)) fun KK hKK=>?_;cbv
     (repeat' apply And.intro);(try (any_goals (first | exact rfl | trivial)));refine hKK _ ?_;cbv
     exact And.left (hQ _ _ _ rfl rfl (by cases h;subst hR;rfl))
   refine L_rgJ hE lay_ok h 4 (fun j1:Bool=>[(55,fB j1)]) (fun j1=>[]) (fun j1 h=>?_) (fun j1 h=>?_)<;>cbv
   · refine L_if hE h (fun h=>?_) (fun h=>?_)<;>cbv
     · refine L_rowN hE hR h fun r5 h=>?_;cbv
       refine L_call hE hR h (fun _ e=>r16_count_w e) (by subst hR;rfl) rfl fun a6 h=>?_;cbv
       cases h;(cbv;(try simp only [e_rnil hR]);repeat' (first | exact trivial | exact rfl | exact Or.inr trivial | apply And.intro))
     cases h;(cbv;(try simp only [e_rnil hR]);repeat' (first | exact trivial | exact rfl | exact Or.inr trivial | apply And.intro))
   refine L_if hE h (fun h=>?_) (fun h=>?_)<;>cbv
   · exact And.left (hQ _ _ _ rfl rfl (by cases h;subst hR;rfl))
   refine L_if hE h (fun h=>?_) (fun h=>?_)<;>cbv
   · refine L_denilB hE 3 2 rfl rfl ?_;cbv
     refine L_denilB hE 3 3 rfl rfl ?_;cbv
     refine L_for hE lay_ok 4 (fun g:Int ×(List CSet)×(List (List Int))×(List Int)×(List Int)× Bool × Nat=>[(7,fI .i64 g.1)]) (fun g=>[(3,.box 65 [.t (.slc (R _ cSet g.2.1)),.t (.slc (R _ (cLs (cI .i64)) g.2.2.1)),.t (.slc (R _ (cI .i64) g.2.2.2.1)),.t (.slc (R _ (cI .i64) g.2.2.2.2.1)),fB g.2.2.2.2.2.1])]) (fun g=>r16_write_l1 (r16_write_g N) (r16_rest_g N) N p0 g.2.2.2.2.2.2 g.1 g.2.1 g.2.2.1 g.2.2.2.1 g.2.2.2.2.1 g.2.2.2.2.2.1=some r) (fun g=>g.2.2.2.2.2.2) (_,_,_,_,_,_,N) h ?_ ?_
     · (cbv;(try simp only [e_rnil hR]);repeat' (first | exact trivial | exact rfl | exact Or.inr trivial | apply And.intro))
     rintro ⟨v7,v8,v9,v10,v11,v12,m1⟩ h Q1 hN1 hT1 hX1
     have h:r16_write_l1 (r16_write_g N) (r16_rest_g N) N p0 m1 v7 v8 v9 v10 v11 v12=some r:=h
     cases m1 with
     | zero=>exact nomatch (show (none:Option _)=some _ from h)
     | succ m1=>
     rw [r16_write_l1] at h
     rw [q_ar hE,q_cm hE] at h
     cbv
     refine L_if hE h (fun h=>?_) (fun h=>?_)<;>cbv
     · refine L_tail hE lay_ok (by kernel_rfl) 8 (by kernel_rfl) ?_;cbv
       refine L_rowN hE hR h fun r13 h=>?_;cbv
       refine L_pcall hE hR h (fun _ e=>(ih.2) e) (by subst hR;rfl) rfl fun a14 h=>?_;cbv
       refine L_pcall hE hR h (fun _ e=>r16_behind_w e) (by subst hR;rfl) rfl fun a15 h=>?_;cbv
       refine hN1 _ (_,_,_,_,_,_,m1) [] h (Nat.lt_succ_self _) trivial ?_;(cbv;(try simp only [e_rnil hR]);repeat' (first | exact trivial | exact rfl | exact Or.inr trivial | apply And.intro))
     refine hX1 _ _ ?_;cbv
     refine L_if hE h (fun h=>?_) (fun h=>?_)<;>cbv
     · refine L_tail hE lay_ok (by kernel_rfl) 13 (by kernel_rfl) ?_;cbv
       refine L_rowN hE hR h fun r16 h=>?_;cbv
       refine L_pcall hE hR h (fun _ e=>(ih.1) e) (by subst hR;rfl) rfl fun a17 h=>?_;cbv
       refine L_pcall hE hR h (fun _ e=>r16_behind_w e) (by subst hR;rfl) rfl fun a18 h=>?_;cbv
       exact And.left (hQ _ _ _ rfl rfl (by cases h;subst hR;rfl))
     refine L_tail hE lay_ok (by kernel_rfl) 7 (by kernel_rfl) ?_;cbv
     refine L_rowN hE hR h fun r19 h=>?_;cbv
     refine L_pcall hE hR h (fun _ e=>(ih.2) e) (by subst hR;rfl) rfl fun a20 h=>?_;cbv
     refine L_call hE hR h (fun _ e=>r16_link_w e) (by subst hR;rfl) rfl fun a21 h=>?_;cbv
     refine L_call hE hR h (fun _ e=>r16_behind_w e) (by subst hR;rfl) rfl fun a22 h=>?_;cbv
     exact And.left (hQ _ _ _ rfl rfl (by cases h;subst hR;rfl))
   refine L_denilB hE 3 2 rfl rfl ?_;cbv
   refine L_denilB hE 3 3 rfl rfl ?_;cbv
   refine L_for hE lay_ok 4 (fun g:Int ×(List CSet)×(List (List Int))×(List Int)×(List Int)× Bool × Nat=>[(9,fI .i64 g.1)]) (fun g=>[(3,.box 65 [.t (.slc (R _ cSet g.2.1)),.t (.slc (R _ (cLs (cI .i64)) g.2.2.1)),.t (.slc (R _ (cI .i64) g.2.2.2.1)),.t (.slc (R _ (cI .i64) g.2.2.2.2.1)),fB g.2.2.2.2.2.1])]) (fun g=>r16_write_l2 (r16_write_g N) N p0 g.2.2.2.2.2.2 g.1 g.2.1 g.2.2.1 g.2.2.2.1 g.2.2.2.2.1 g.2.2.2.2.2.1=some r) (fun g=>g.2.2.2.2.2.2) (_,_,_,_,_,_,N) h ?_ ?_
   · (cbv;(try simp only [e_rnil hR]);repeat' (first | exact trivial | exact rfl | exact Or.inr trivial | apply And.intro))
   rintro ⟨v23,v24,v25,v26,v27,v28,m2⟩ h Q2 hN2 hT2 hX2
   have h:r16_write_l2 (r16_write_g N) N p0 m2 v23 v24 v25 v26 v27 v28=some r:=h
   cases m2 with
   | zero=>exact nomatch (show (none:Option _)=some _ from h)
   | succ m2=>
   rw [r16_write_l2] at h
   rw [q_ar hE,q_cm hE,q_ll hE,←hR] at h
   cbv
   refine L_if hE h (fun h=>?_) (fun h=>?_)<;>cbv
   · refine L_tail hE lay_ok (by kernel_rfl) 8 (by kernel_rfl) ?_;cbv
     refine L_rowN hE hR h fun r29 h=>?_;cbv
     refine L_pcall hE hR h (fun _ e=>(ih.2) e) (by subst hR;rfl) rfl fun a30 h=>?_;cbv
     refine L_cdJ hE lay_ok h 13 (fun j3:(List CSet)×(List (List Int))×(List Int)×(List Int)× Bool=>[]) (fun j3=>[(3,.box 65 [.t (.slc (R _ cSet j3.1)),.t (.slc (R _ (cLs (cI .i64)) j3.2.1)),.t (.slc (R _ (cI .i64) j3.2.2.1)),.t (.slc (R _ (cI .i64) j3.2.2.2.1)),fB j3.2.2.2.2])]) (fun j3 h=>?_) (fun j3 h=>?_)<;>cbv
     · refine L_if hE h (fun h=>?_) (fun h=>?_)<;>cbv
       · refine L_call hE hR h (fun _ e=>r16_behind_w e) (by subst hR;rfl) rfl fun a31 h=>?_;cbv
         cases h;(cbv;(try simp only [e_rnil hR]);repeat' (first | exact trivial | exact rfl | exact Or.inr trivial | apply And.intro))
       refine L_tail hE lay_ok (by kernel_rfl) 23 (by kernel_rfl) ?_;cbv
       refine L_pcall hE hR h (fun _ e=>r16_Join_w e) (by subst hR;rfl) rfl fun a32 h=>?_;cbv
       refine L_pcall hE hR h (fun _ e=>r16_Join_w e) (by subst hR;rfl) rfl fun a33 h=>?_;cbv
       refine L_if hE h (fun h=>?_) (fun h=>?_)<;>cbv
       · refine L_if hE h (fun h=>?_) (fun h=>?_)<;>cbv
         · refine L_if hE h (fun h=>?_) (fun h=>?_)<;>cbv
           · cases h;(cbv;(try simp only [e_rnil hR]);repeat' (first | exact trivial | exact rfl | exact Or.inr trivial | apply And.intro))
           exact nomatch h
         exact nomatch h
       refine L_if hE h (fun h=>?_) (fun h=>?_)<;>cbv
       · exact nomatch h
       refine L_if hE h (fun h=>?_) (fun h=>?_)<;>cbv
       · exact nomatch h
       cases h;(cbv;(try simp only [e_rnil hR]);repeat' (first | exact trivial | exact rfl | exact Or.inr trivial | apply And.intro))
     refine hN2 _ (_,_,_,_,_,_,m2) [] h (Nat.lt_succ_self _) trivial ?_;(cbv;(try simp only [e_rnil hR]);repeat' (first | exact trivial | exact rfl | exact Or.inr trivial | apply And.intro))
   refine hX2 _ _ ?_;cbv
   exact And.left (hQ _ _ _ rfl rfl (by cases h;subst hR;rfl))
theorem r16_write_w {N:Nat}:∀{p0:Node} {p1:Gr16_W} {r:Gr16_W},r16_write_g N p0 p1=some r→FunS Tryd.prog 36 [.agg [fI .i64 p0.kind,fI .u64 (p0.set.a.toNat:Int),fI .u64 (p0.set.b.toNat:Int),fI .u64 (p0.set.c.toNat:Int),fI .u64 (p0.set.d.toNat:Int),.t (.slc (rw _ nodeRow p0.kids)),fI .i64 p0.min,fI .i64 p0.max],.agg [.t (.slc (rw _ cSet p1.Sets)),.t (.slc (rw _ (cLs (cI .i64)) p1.Next)),.t (.slc (rw _ (cI .i64) p1.First)),.t (.slc (rw _ (cI .i64) p1.Last)),fB p1.None]] (r16_write_s rw) r:=(grp_r16_write N).2
theorem r16_Of_w {N:Nat} {p0:Node} {r:GSpots × Int} (h:r16_Of_g N p0=some r):FunS Tryd.prog 15 [.agg [fI .i64 p0.kind,fI .u64 (p0.set.a.toNat:Int),fI .u64 (p0.set.b.toNat:Int),fI .u64 (p0.set.c.toNat:Int),fI .u64 (p0.set.d.toNat:Int),.t (.slc (rw _ nodeRow p0.kids)),fI .i64 p0.min,fI .i64 p0.max]] (r16_Of_s rw) r:=by
 refine fun_w lay_ok Tryd.call15 Tryd.func15 rfl ?_
 intro A W E Q R hE hR hf hQ;rcases W with ⟨ar,cm,conj,cv,sl,sc,ct,sa,ss,ll,_,_,_,_,mi,mx,_,_,_,_,_⟩
 rw [←hR]
 unfold r16_Of_g at h
 rw [q_cm hE] at h
 cbv
 refine L_call hE hR h (fun _ e=>r13_Right_w e) (by subst hR;rfl) rfl fun a1 h=>?_;cbv
 refine L_if hE h (fun h=>?_) (fun h=>?_)<;>cbv
 · exact And.left (hQ _ _ _ rfl rfl (by cases h;subst hR;rfl))
 refine L_call hE hR h (fun _ e=>r16_count_w e) (by subst hR;rfl) rfl fun a2 h=>?_;cbv
 refine L_if hE h (fun h=>?_) (fun h=>?_)<;>cbv
 · exact And.left (hQ _ _ _ rfl rfl (by cases h;subst hR;rfl))
 refine L_call hE hR h (fun _ e=>r16_write_w e) (by subst hR;rfl) rfl fun a3 h=>?_;cbv
 exact And.left (hQ _ _ _ rfl rfl (by cases h;subst hR;rfl))
end Gn
end Go.Proofs.YtbpihhelojjedaaDoor
namespace Go.Proofs.YtbpihhelojjedaaDoor
open Go Go.RowKit
open Ab Sh
namespace Gn
theorem r16_same_w {N:Nat} {p0:List Int} {p1:List Int} {r:Bool} (h:r16_same_g N p0 p1=some r):FunS Tryd.prog 37 [.t (.slc (rw _ (cI .i64) p0)),.t (.slc (rw _ (cI .i64) p1))] (r16_same_s rw) r:=by
 refine fun_w lay_ok Tryd.call37 Tryd.func37 rfl ?_
 intro A W E Q R hE hR hf hQ;rcases W with ⟨ar,cm,conj,cv,sl,sc,ct,sa,ss,ll,_,_,_,_,mi,mx,_,_,_,_,_⟩
 rw [←hR]
 unfold r16_same_g at h
 rw [q_cm hE,q_ll hE,←hR] at h
 cbv
 refine L_if hE h (fun h=>?_) (fun h=>?_)<;>cbv
 · exact And.left (hQ _ _ _ rfl rfl (by cases h;subst hR;rfl))
 refine L_for hE lay_ok 0 (fun g:Int × Nat=>[(4,fB false),(5,fI .i64 g.1)]) (fun g=>[]) (fun g=>r16_same_l1 p0 p1 g.2 g.1=some r) (fun g=>g.2) (_,N) h ?_ ?_
 · (cbv;(try simp only [e_rnil hR]);repeat' (first | exact trivial | exact rfl | exact Or.inr trivial | apply And.intro))
 rintro ⟨v1,m1⟩ h Q1 hN1 hT1 hX1
 have h:r16_same_l1 p0 p1 m1 v1=some r:=h
 cases m1 with
 | zero=>exact nomatch (show (none:Option _)=some _ from h)
 | succ m1=>
 rw [r16_same_l1] at h
 rw [q_ar hE,q_cm hE,q_ll hE,←hR] at h
 cbv
 refine L_if hE h (fun h=>?_) (fun h=>?_)<;>cbv
 · refine L_whole hE lay_ok (by kernel_rfl) (by kernel_rfl) ?_;cbv
   refine L_row hE hR h fun r2 h=>?_;cbv
   refine L_row hE hR h fun r3 h=>?_;cbv
   refine L_if hE h (fun h=>?_) (fun h=>?_)<;>cbv
   · refine hT1 _ ?_
     exact And.left (hQ _ _ _ rfl rfl (by cases h;subst hR;rfl))
   refine hN1 _ (_,m1) [] h (Nat.lt_succ_self _) trivial ?_;(cbv;(try simp only [e_rnil hR]);repeat' (first | exact trivial | exact rfl | exact Or.inr trivial | apply And.intro))
 refine hX1 _ _ ?_;cbv
 exact And.left (hQ _ _ _ rfl rfl (by cases h;subst hR;rfl))
theorem r16_Same_w {N:Nat} {p0:GSpots} {p1:GSpots} {r:Bool} (h:r16_Same_g N p0 p1=some r):FunS Tryd.prog 16 [.agg [.t (.slc (rw _ cSet p0.Sets)),fB p0.None,.t (.slc (rw _ (cI .i64) p0.First)),.t (.slc (rw _ (cI .i64) p0.Last)),.t (.slc (rw _ (cLs (cI .i64)) p0.Next))],.agg [.t (.slc (rw _ cSet p1.Sets)),fB p1.None,.t (.slc (rw _ (cI .i64) p1.First)),.t (.slc (rw _ (cI .i64) p1.Last)),.t (.slc (rw _ (cLs (cI .i64)) p1.Next))]] (r16_Same_s rw) r:=by
 refine fun_w lay_ok Tryd.call16 Tryd.func16 rfl ?_
 intro A W E Q R hE hR hf hQ;rcases W with ⟨ar,cm,conj,cv,sl,sc,ct,sa,ss,ll,_,_,_,_,mi,mx,_,_,_,_,_⟩
 rw [←hR]
 unfold r16_Same_g at h
 rw [q_cm hE,q_conj hE,q_ll hE,←hR] at h
 cbv
 refine L_rgJ hE lay_ok h 2 (fun j1:Bool=>[(45,fB j1)]) (fun j1=>[]) (fun j1 h=>?_) (fun j1 h=>?_)<;>cbv
 · refine L_if hE h (fun h=>?_) (fun h=>?_)<;>cbv
   · cases h;(cbv;(try simp only [e_rnil hR]);repeat' (first | exact trivial | exact rfl | exact Or.inr trivial | apply And.intro))
   refine L_if hE h (fun h=>?_) (fun h=>?_)<;>cbv
   · cases h;(cbv;(try simp only [e_rnil hR]);repeat' (first | exact trivial | exact rfl | exact Or.inr trivial | apply And.intro))
   refine L_if hE h (fun h=>?_) (fun h=>?_)<;>cbv
   · cases h;(cbv;(try simp only [e_rnil hR]);repeat' (first | exact trivial | exact rfl | exact Or.inr trivial | apply And.intro))
   refine L_call hE hR h (fun _ e=>r16_same_w e) (by subst hR;rfl) rfl fun a1 h=>?_;cbv
   refine L_if hE h (fun h=>?_) (fun h=>?_)<;>cbv
   · cases h;(cbv;(try simp only [e_rnil hR]);repeat' (first | exact trivial | exact rfl | exact Or.inr trivial | apply And.intro))
   refine L_call hE hR h (fun _ e=>r16_same_w e) (by subst hR;rfl) rfl fun a2 h=>?_;cbv
   cases h;(cbv;(try simp only [e_rnil hR]);repeat' (first | exact trivial | exact rfl | exact Or.inr trivial | apply And.intro))
 refine L_if hE h (fun h=>?_) (fun h=>?_)<;>cbv
 · exact And.left (hQ _ _ _ rfl rfl (by cases h;subst hR;rfl))
 refine L_for hE lay_ok 2 (fun g:Int × Nat=>[(4,fB false),(5,fI .i64 g.1)]) (fun g=>[]) (fun g=>r16_Same_l1 N p0 p1 g.2 g.1=some r) (fun g=>g.2) (_,N) h ?_ ?_
 · (cbv;(try simp only [e_rnil hR]);repeat' (first | exact trivial | exact rfl | exact Or.inr trivial | apply And.intro))
 rintro ⟨v3,m1⟩ h Q1 hN1 hT1 hX1
 have h:r16_Same_l1 N p0 p1 m1 v3=some r:=h
 cases m1 with
 | zero=>exact nomatch (show (none:Option _)=some _ from h)
 | succ m1=>
 rw [r16_Same_l1] at h
 rw [q_ar hE,q_cm hE,q_conj hE,q_ll hE,←hR] at h
 cbv
 refine L_if hE h (fun h=>?_) (fun h=>?_)<;>cbv
 · refine L_whole hE lay_ok (by kernel_rfl) (by kernel_rfl) ?_;cbv
   refine L_row hE hR h fun r4 h=>?_;cbv
   refine L_row hE hR h fun r5 h=>?_;cbv
   refine L_if hE h (fun h=>?_) (fun h=>?_)<;>cbv
   · refine hT1 _ ?_
     exact And.left (hQ _ _ _ rfl rfl (by cases h;subst hR;rfl))
   refine hN1 _ (_,m1) [] h (Nat.lt_succ_self _) trivial ?_;(cbv;(try simp only [e_rnil hR]);repeat' (first | exact trivial | exact rfl | exact Or.inr trivial | apply And.intro))
 refine hX1 _ _ ?_;cbv
 refine L_for hE lay_ok 2 (fun g:Int × Nat=>[(4,fB false),(6,fI .i64 g.1)]) (fun g=>[]) (fun g=>r16_Same_l2 N p0 p1 g.2 g.1=some r) (fun g=>g.2) (_,N) h ?_ ?_
 · (cbv;(try simp only [e_rnil hR]);repeat' (first | exact trivial | exact rfl | exact Or.inr trivial | apply And.intro))
 rintro ⟨v6,m2⟩ h Q2 hN2 hT2 hX2
 have h:r16_Same_l2 N p0 p1 m2 v6=some r:=h
 cases m2 with
 | zero=>exact nomatch (show (none:Option _)=some _ from h)
 | succ m2=>
 rw [r16_Same_l2] at h
 rw [q_ar hE,q_cm hE,q_ll hE,←hR] at h
 cbv
 refine L_if hE h (fun h=>?_) (fun h=>?_)<;>cbv
 · refine L_whole hE lay_ok (by kernel_rfl) (by kernel_rfl) ?_;cbv
   refine L_rowL hE hR h fun r7 h=>?_;cbv
   refine L_rowL hE hR h fun r8 h=>?_;cbv
   refine L_pcall hE hR h (fun _ e=>r16_same_w e) (by subst hR;rfl) rfl fun a9 h=>?_;cbv
   refine L_if hE h (fun h=>?_) (fun h=>?_)<;>cbv
   · refine hT2 _ ?_
     exact And.left (hQ _ _ _ rfl rfl (by cases h;subst hR;rfl))
   refine hN2 _ (_,m2) [] h (Nat.lt_succ_self _) trivial ?_;(cbv;(try simp only [e_rnil hR]);repeat' (first | exact trivial | exact rfl | exact Or.inr trivial | apply And.intro))
 refine hX2 _ _ ?_;cbv
 exact And.left (hQ _ _ _ rfl rfl (by cases h;subst hR;rfl))
theorem l16_SpotsOf_w {N:Nat} {p0:Node} {r:Bool} (h:l16_SpotsOf_g N p0=some r):FunS Tryd.prog 4 [.agg [fI .i64 p0.kind,fI .u64 (p0.set.a.toNat:Int),fI .u64 (p0.set.b.toNat:Int),fI .u64 (p0.set.c.toNat:Int),fI .u64 (p0.set.d.toNat:Int),.t (.slc (rw _ nodeRow p0.kids)),fI .i64 p0.min,fI .i64 p0.max]] (l16_SpotsOf_s rw) r:=by
 refine fun_w lay_ok Tryd.call4 Tryd.func4 rfl ?_
 intro A W E Q R hE hR hf hQ;rcases W with ⟨ar,cm,conj,cv,sl,sc,ct,sa,ss,ll,_,_,_,_,mi,mx,_,_,_,_,_⟩
 rw [←hR]
 unfold l16_SpotsOf_g at h
 rw [q_cm hE] at h
 cbv
 refine L_rgJ hE lay_ok h 1 (fun j1:Bool=>[(18,fB j1)]) (fun j1=>[]) (fun j1 h=>?_) (fun j1 h=>?_)<;>cbv
 · refine L_call hE hR h (fun _ e=>l13_Great_w e) (by subst hR;rfl) rfl fun a1 h=>?_;cbv
   refine L_if hE h (fun h=>?_) (fun h=>?_)<;>cbv
   · cases h;(cbv;(try simp only [e_rnil hR]);repeat' (first | exact trivial | exact rfl | exact Or.inr trivial | apply And.intro))
   refine L_call hE hR h (fun _ e=>spots_Count_w e) (by subst hR;rfl) rfl fun a2 h=>?_;cbv
   refine L_if hE h (fun h=>?_) (fun h=>?_)<;>cbv
   · refine L_call hE hR h (fun _ e=>spots_Count_w e) (by subst hR;rfl) rfl fun a3 h=>?_;cbv
     cases h;(cbv;(try simp only [e_rnil hR]);repeat' (first | exact trivial | exact rfl | exact Or.inr trivial | apply And.intro))
   cases h;(cbv;(try simp only [e_rnil hR]);repeat' (first | exact trivial | exact rfl | exact Or.inr trivial | apply And.intro))
 refine L_if hE h (fun h=>?_) (fun h=>?_)<;>cbv
 · refine L_whole hE lay_ok (by kernel_rfl) (by kernel_rfl) ?_;cbv
   refine L_pcall hE hR h (fun _ e=>spots_Count_w e) (by subst hR;rfl) rfl fun a4 h=>?_;cbv
   refine L_pcall hE hR h (fun _ e=>r16_Count_w e) (by subst hR;rfl) rfl fun a5 h=>?_;cbv
   refine L_if hE h (fun h=>?_) (fun h=>?_)<;>cbv
   · refine L_pcall hE hR h (fun _ e=>works16_w e) rfl rfl fun a6 h=>?_;cbv
     refine L_if hE h (fun h=>?_) (fun h=>?_)<;>cbv
     · exact And.left (hQ _ _ _ rfl rfl (by cases h;subst hR;rfl))
     exact nomatch h
   refine L_if hE h (fun h=>?_) (fun h=>?_)<;>cbv
   · exact nomatch h
   exact And.left (hQ _ _ _ rfl rfl (by cases h;subst hR;rfl))
 refine L_call hE hR h (fun _ e=>spots_Of_w e) (by subst hR;rfl) rfl fun a7 h=>?_;cbv
 refine L_call hE hR h (fun _ e=>r16_Of_w e) (by subst hR;rfl) rfl fun a8 h=>?_;cbv
 refine L_whole hE lay_ok (by kernel_rfl) (by kernel_rfl) ?_;cbv
 refine L_pcall hE hR h (fun _ e=>spots_Count_w e) (by subst hR;rfl) rfl fun a9 h=>?_;cbv
 refine L_pcall hE hR h (fun _ e=>r16_Count_w e) (by subst hR;rfl) rfl fun a10 h=>?_;cbv
 refine L_if hE h (fun h=>?_) (fun h=>?_)<;>cbv
 · refine L_if hE h (fun h=>?_) (fun h=>?_)<;>cbv
   · refine L_if hE h (fun h=>?_) (fun h=>?_)<;>cbv
     · refine L_pcall hE hR h (fun _ e=>r16_Same_w e) (by subst hR;rfl) rfl fun a11 h=>?_;cbv
       refine L_if hE h (fun h=>?_) (fun h=>?_)<;>cbv
       · refine L_if hE h (fun h=>?_) (fun h=>?_)<;>cbv
         · refine L_if hE h (fun h=>?_) (fun h=>?_)<;>cbv
           · refine L_if hE h (fun h=>?_) (fun h=>?_)<;>cbv
             · refine L_if hE h (fun h=>?_) (fun h=>?_)<;>cbv
               · refine L_if hE h (fun h=>?_) (fun h=>?_)<;>cbv
                 · refine L_pcall hE hR h (fun _ e=>works16_w e) rfl rfl fun a12 h=>?_;cbv
                   refine L_if hE h (fun h=>?_) (fun h=>?_)<;>cbv
                   · exact And.left (hQ _ _ _ rfl rfl (by cases h;subst hR;rfl))
                   exact nomatch h
                 refine L_if hE h (fun h=>?_) (fun h=>?_)<;>cbv
                 · exact nomatch h
                 exact And.left (hQ _ _ _ rfl rfl (by cases h;subst hR;rfl))
               exact nomatch h
             exact nomatch h
           exact nomatch h
         refine L_if hE h (fun h=>?_) (fun h=>?_)<;>cbv
         · exact nomatch h
         refine L_if hE h (fun h=>?_) (fun h=>?_)<;>cbv
         · exact nomatch h
         refine L_if hE h (fun h=>?_) (fun h=>?_)<;>cbv
         · exact nomatch h
         refine L_f hE ?_;cbv
         refine L_f hE ?_;cbv
         exact And.left (hQ _ _ _ rfl rfl (by cases h;subst hR;rfl))
       exact nomatch h
     exact nomatch h
   exact nomatch h
 refine L_if hE h (fun h=>?_) (fun h=>?_)<;>cbv
 · exact nomatch h
 refine L_if hE h (fun h=>?_) (fun h=>?_)<;>cbv
 · exact nomatch h
 refine L_if hE h (fun h=>?_) (fun h=>?_)<;>cbv
 · exact nomatch h
 refine L_f hE ?_;cbv
 refine L_f hE ?_;cbv
 refine L_f hE ?_;cbv
 refine L_f hE ?_;cbv
 refine L_f hE ?_;cbv
 refine L_f hE ?_;cbv
 exact And.left (hQ _ _ _ rfl rfl (by cases h;subst hR;rfl))
end Gn
end Go.Proofs.YtbpihhelojjedaaDoor
namespace Go.Proofs.YtbpihhelojjedaaDoor
open Go Go.RowKit Go.ChangeShapes Go.WideShapes
theorem addr_off (b o j:Nat):(⟨b,o,none⟩:Addr).add j=⟨b,o+j,none⟩:=by simp [Addr.add]
def Fits (A:Option Addr) (n cap:Nat):Prop:=n≤cap∧(A=none→cap=0)
theorem Fits.none_:Fits none 0 0:=⟨Nat.le_refl _,fun _=>rfl⟩
section
variable {α:Type}
def RowsAt (n:Nat) (R:α→List Value→Prop) (G:Nat→Prop) (w:World) (A:Option Addr) (xs:List α):Prop:=
 0<xs.length→∃b o,A=some ⟨b,o,none⟩∧G b∧∀(k:Nat) (h:k<xs.length),∃cs,R xs[k] cs∧∀j u,cs[j]?=some u→w.cell? ⟨b,o+k*n+j,none⟩=some u
def Kept (G:Nat→Prop) (w w':World):Prop:=∀b,G b→w'.heap[b]?=w.heap[b]?
theorem Kept.cell {G:Nat→Prop} {w w':World} (h:Kept G w w') {b:Nat} (hb:G b) (o:Nat):w'.cell? ⟨b,o,none⟩=w.cell? ⟨b,o,none⟩:=World.cell?_of_block (h b hb)
theorem rows_nil {n:Nat} {R:α→List Value→Prop} {G:Nat→Prop} {w:World} {A:Option Addr}:RowsAt n R G w A ([]:List α):=fun h=>absurd h (by simp)
end
section
variable {H:Type} {enc:TypeId × Value→H} {P:Program} {W:World} {sp:Nat→Bool} {held:Bool}
theorem cell_place {a:Addr} {u:Value} (h:W.cell? a=some u):a=⟨a.block,a.off,none⟩∧a.block<W.heap.size:=by
 unfold World.cell? at h
 cases hb:W.heap[a.block]? with
 | none=>rw [hb] at h;cases h
 | some o=>
   rw [hb] at h
   refine ⟨?_,(Array.getElem?_eq_some_iff.1 hb).1⟩
   cases o with
   | cells c t fr=>
     dsimp only at h
     cases hs:a.spot with
     | none=>cases a;simp at hs;subst hs;rfl
     | some x=>rw [hs] at h;simp at h
   | _=>cases h
end
end Go.Proofs.YtbpihhelojjedaaDoor
namespace Go.Proofs.YtbpihhelojjedaaDoor
open Go Go.RowKit Go.ChangeShapes Go.WideShapes
open Ab
namespace Op2
def CRep (G:Nat→Prop) (w:World) (ts:List T) (cs:List Value):Prop:=cs.length=ts.length∧∀(j:Nat) t u,ts[j]?=some t→cs[j]?=some u→TRep G w t u
theorem crep_nil {G:Nat→Prop} {w:World}:CRep G w [] []:=⟨rfl,fun j t u h=>by simp at h⟩
theorem crep_cons {G:Nat→Prop} {w:World} {t:T} {u:Value} {ts:List T} {cs:List Value} (h:TRep G w t u) (hr:CRep G w ts cs):CRep G w (t::ts) (u::cs):=by
 refine ⟨by simp [hr.1],fun j a b h1 h2=>?_⟩
 cases j with
 | zero=>simp at h1 h2;subst h1;subst h2;exact h
 | succ j=>exact hr.2 j a b (by simpa using h1) (by simpa using h2)
theorem crep_app {G:Nat→Prop} {w:World}:∀{ts us:List T} {cs ds:List Value},CRep G w ts cs→CRep G w us ds→CRep G w (ts++us) (cs++ds)
 | [],us,[],ds,_,h=>h
 | [],us,c::cs,ds,h,_=>by have:=h.1;simp at this
 | t::ts,us,[],ds,h,_=>by have:=h.1;simp at this
 | t::ts,us,c::cs,ds,h,g=>crep_cons (h.2 0 t c rfl rfl) (crep_app ⟨by have:=h.1;simpa using this,fun j a b h1 h2=>h.2 (j+1) a b (by simpa using h1) (by simpa using h2)⟩ g)
theorem agg_rep {cx:Cx} {w:World} {ts:List T} {cs:Array Value} (h:CRep cx.G w ts cs.toList):VRep cx w (.agg (ts.map V.t)) (.agg cs):=by
 refine .agg _ _ (by simpa using h.1) (fun c hc=>by obtain ⟨t,-,rfl⟩:=List.mem_map.1 hc;rfl) (fun i c u h1 h2=>?_)
 rw [List.getElem?_map] at h1
 obtain ⟨t,ht,rfl⟩:=Option.map_eq_some_iff.1 h1
 exact .t _ _ (h.2 i t u ht (by simpa using h2))
theorem slc_of {α:Type} {n:Nat} {row:α→List T} {R:α→List Value→Prop} {G:Nat→Prop} {w:World} {xs:List α} {A:Option Addr} {cap:Nat} (hn:∀x∈xs,(row x).length=n) (hR:∀x cs,x∈xs→R x cs→CRep G w (row x) cs)
 (hf:Fits A xs.length cap) (h:RowsAt n R G w A xs):TRep G w (.slc (xs.map row)) (.slice A xs.length cap):=by
 by_cases hpos:0<xs.length
 · obtain ⟨b,o,rfl,hG,hk⟩:=h hpos
   have key:∀i j t,((xs.map row)[i]?).bind (fun r=>r[j]?)=some t→∃u,w.cell? ⟨b,o+(i*n+j),none⟩=some u∧TRep G w t u:=fun i j t ht=>by
    rw [List.getElem?_map] at ht
    cases hx:xs[i]? with
    | none=>rw [hx] at ht;cases ht
    | some x=>
      rw [hx] at ht
      simp only [Option.map_some,Option.bind_some] at ht
      obtain ⟨hi,rfl⟩:=List.getElem?_eq_some_iff.1 hx
      obtain ⟨cs,h1,h2⟩:=hk i hi
      obtain ⟨g1,g2⟩:=hR _ cs (List.getElem_mem hi) h1
      have hj:j<cs.length:=by have:=(List.getElem?_eq_some_iff.1 ht).1;omega
      refine ⟨cs[j],?_,g2 j t _ ht (List.getElem?_eq_getElem hj)⟩
      have:=h2 j _ (List.getElem?_eq_getElem hj)
      rwa [show o+i*n+j=o+(i*n+j) by omega] at this
   have hlen:(xs.map row).length=xs.length:=List.length_map ..
   rw [←hlen]
   refine .slc _ _ b o n cap (fun i j=>(w.cell? ⟨b,o+(i*n+j),none⟩).getD undef) (by rw [hlen];exact hf.1) (fun e=>by cases e) (fun _=>⟨rfl,hG⟩) (fun r hr=>?_) (fun i j t ht=>?_) (fun i j t ht=>?_)
   · obtain ⟨x,hx,rfl⟩:=List.mem_map.1 hr
     exact hn x hx
   · obtain ⟨u,h1,-⟩:=key i j t ht
     rw [h1]
     rfl
   · obtain ⟨u,h1,h2⟩:=key i j t ht
     rw [h1]
     exact h2
 · obtain rfl:xs=[]:=List.eq_nil_of_length_eq_zero (by omega)
   exact .slc [] A 0 0 0 cap (fun _ _=>undef) (Nat.zero_le _) hf.2 (fun h=>absurd rfl h) (fun r h=>by simp at h) (fun i j t h=>by simp at h) (fun i j t h=>by simp at h)
section
variable {H:Type} {enc:TypeId × Value→H} {P:Program} {W:World} {sp:Nat→Bool} {held:Bool} {fuel:Nat} {x:DataW H × List MemPlace}
abbrev GW (W:World):Nat→Prop:=fun b=>b<W.heap.size
theorem o_int {t:TypeId} {k:IntKind} {cs:List Value} (ht:P.underlying t=some (.int k)) (h:DataW.trod enc P W 0 sp held fuel t cs=some x):∃a:Int,CRep (GW W) W [.flat (.int k a)] cs:=by
 obtain ⟨n,rfl,-,-⟩:=DataW.trod_int ht h
 exact ⟨n,crep_cons (.flat _ rfl) crep_nil⟩
theorem fld {fs:Array Field} {n:Nat} {cs:List Value} {xs:List (DataW H × List MemPlace)} (hl:xs.length=fs.size)
 (hf:∀(i:Nat) (f:Field),fs[i]?=some f→DataW.trod enc P W 0 sp held n f.type ((cs.drop f.offset).take (P.cellsOf f.type))=xs[i]?) (i:Nat) (f:Field) (h:fs[i]?=some f):
 ∃y,DataW.trod enc P W 0 sp held n f.type ((cs.drop f.offset).take (P.cellsOf f.type))=some y:=by
 have:=hf i f h
 obtain ⟨hi,-⟩:=Array.getElem?_eq_some_iff.1 h
 rw [List.getElem?_eq_getElem (by omega)] at this
 exact ⟨_,this⟩
theorem part {G:Nat→Prop} {cs:List Value} {o s:Nat} {ts us:List T} (h:CRep G W ts ((cs.drop o).take s)) (hr:CRep G W us (cs.drop (o+s))):CRep G W (ts++us) (cs.drop o):=by
 have e:cs.drop o=(cs.drop o).take s++cs.drop (o+s):=by rw [←List.drop_drop,List.take_append_drop]
 rw [e]
 exact crep_app h hr
end
theorem vr_nil {cx:Cx} {w:World}:VReps cx w [] ⟨[]⟩:=⟨rfl,fun i c u h=>by simp at h⟩
theorem vr_cons {cx:Cx} {w:World} {a:V} {av:List V} {y:Value} {ys:List Value} (h:VRep cx w a y) (hr:VReps cx w av ⟨ys⟩):VReps cx w (a::av) ⟨y::ys⟩:=
 ⟨by have:=hr.1;simp at this ⊢;exact this,fun i c u h1 h2=>by
  cases i with
  | zero=>simp at h1 h2;subst h1;subst h2;exact h
  | succ i=>exact hr.2 i c u (by simpa using h1) (by simpa using h2)⟩
theorem v_agg {cx:Cx} {w:World} {ts:List T} {cs:Array Value} (h:CRep cx.G w ts cs.toList):VRep cx w (.agg (ts.map V.t)) (.agg cs):=agg_rep h
end Op2
end Go.Proofs.YtbpihhelojjedaaDoor
namespace Go.Proofs.YtbpihhelojjedaaDoor
open Go Go.RowKit Go.ChangeShapes Go.WideShapes
open Ab
namespace Op2
variable {H:Type} {enc:TypeId × Value→H} {P:Program} {W:World} {sp:Nat→Bool} {held:Bool} {fuel:Nat} {x:DataW H × List MemPlace}
theorem len1 {t e:TypeId} {cs:List Value} (ht:P.underlying t=some (.slice e)) (h:DataW.trod enc P W 0 sp held fuel t cs=some x):cs.length=1:=by
 rcases DataW.trod_slice ht h with ⟨e5,-⟩ | ⟨a,len,cap,elems,rest,n,-,e5,-⟩<;>rw [e5]<;>rfl
theorem o_u64 {t:TypeId} {cs:List Value} (ht:P.underlying t=some (.int .u64)) (h:DataW.trod enc P W 0 sp held fuel t cs=some x):∃a:BitVec 64,cs=[.int .u64 (a.toNat:Int)]:=by
 obtain ⟨n,rfl,-,h⟩:=DataW.trod_int ht h
 simp only [Lit.wf,Bool.and_eq_true,decide_eq_true_eq] at h
 have h1:(0:Int)≤n:=h.1
 have h2:n≤18446744073709551615:=h.2
 refine ⟨BitVec.ofNat 64 n.toNat,?_⟩
 rw [BitVec.toNat_ofNat,Nat.mod_eq_of_lt (by omega),Int.toNat_of_nonneg h1]
theorem o_set {t e:TypeId} {cs:List Value} (ht:P.underlying t=some (.array 4 e)) (he:P.underlying e=some (.int .u64)) (hce:P.cellsOf e=1) (hct:P.cellsOf t=4) (h:DataW.trod enc P W 0 sp held fuel t cs=some x):∃S:CSet,CRep (GW W) W (Sh.cSet S) cs:=by
 obtain ⟨ys,m,-,-,hl,hy4,hy⟩:=DataW.trod_array ht h
 rw [hct] at hl
 match cs,hl with
 | [v1,v2,v3,v4],_=>
 have y0:=hy 0 (by decide)
 have y1:=hy 1 (by decide)
 have y2:=hy 2 (by decide)
 have y3:=hy 3 (by decide)
 rw [List.getElem?_eq_getElem (by omega),hce] at y0 y1 y2 y3
 obtain ⟨a,ea⟩:=o_u64 (cs:=[v1]) he y0
 obtain ⟨b,eb⟩:=o_u64 (cs:=[v2]) he y1
 obtain ⟨c,ec⟩:=o_u64 (cs:=[v3]) he y2
 obtain ⟨d,ed⟩:=o_u64 (cs:=[v4]) he y3
 cases ea;cases eb;cases ec;cases ed
 exact ⟨⟨a,b,c,d⟩,crep_cons (.flat _ rfl) (crep_cons (.flat _ rfl) (crep_cons (.flat _ rfl) (crep_cons (.flat _ rfl) crep_nil)))⟩
end Op2
end Go.Proofs.YtbpihhelojjedaaDoor
namespace Go.Proofs.YtbpihhelojjedaaDoor
open Go Go.RowKit Go.ChangeShapes Go.WideShapes
open Ab
namespace Op2
variable {H:Type} {enc:TypeId × Value→H} {P:Program} {W:World} {sp:Nat→Bool} {held:Bool}
theorem weightsAll_mem {e:TypeId} {d:DataW H} {k:Nat}:∀{l:List (DataW H)},d∈l→k∈d.weights P e→k∈DataW.weightsAll P e l
 | [],h,_=>by cases h
 | a::l,h,hk=>by
   simp only [DataW.weightsAll]
   rcases List.mem_cons.1 h with rfl | h
   · exact List.mem_append_left _ hk
   · exact List.mem_append_right _ (weightsAll_mem h hk)
theorem rows_openW {α:Type} {T e:TypeId} {n:Nat} {R:α→List Value→Prop} (hT:P.underlying T=some (.slice e)) (hn:P.cellsOf e=n) (hn0:0<n)
 {fuel:Nat} (hR:∀(f2:Nat) (cs:List Value) (x:DataW H × List MemPlace),f2<fuel→DataW.trod enc P W 0 sp held f2 e cs=some x→(∀k∈x.1.weights P e,k≤reachBytes)→∃a,R a cs∧cs.length=n) {v:Value} {x:DataW H × List MemPlace}
 (h:DataW.trod enc P W 0 sp held fuel T [v]=some x) (hw:∀k∈x.1.weights P T,k≤reachBytes):∃(A:Option Addr) (xs:List α) (cap:Nat),v=.slice A xs.length cap∧Fits A xs.length cap∧xs.length≤maxLen∧xs.length*P.bytesOf e≤reachBytes∧RowsAt n R (fun b=>b<W.heap.size) W A xs:=by
 rcases DataW.trod_slice hT h with ⟨e5,-⟩ | ⟨a,len,cap,elems,rest,m,rfl,e5,hxe,-,hlc,hcm,hel,hat,-,-⟩
 · injection e5 with e5 _
   exact ⟨none,[],0,e5,Fits.none_,Nat.zero_le _,by simp,rows_nil⟩
 · injection e5 with e5 _
   rw [hn] at hat
   rw [hxe] at hw
   have hwd:∀k∈(elems.length+rest.length)*P.bytesOf e::(DataW.weightsAll P e (elems.map (·.1))++DataW.weightsAll P e (rest.map (·.1))),k≤reachBytes:=by
    intro k hk
    refine hw k ?_
    simp only [DataW.weights,hT,List.length_map]
    exact hk
   have hwe:∀y∈elems,∀k∈y.1.weights P e,k≤reachBytes:=fun y hy k hk=>hwd k (List.mem_cons_of_mem _ (List.mem_append_left _ (weightsAll_mem (List.mem_map.2 ⟨y,hy,rfl⟩) hk)))
   have hwl:elems.length*P.bytesOf e≤reachBytes:=Nat.le_trans (Nat.mul_le_mul_right _ (Nat.le_add_right _ _)) (hwd _ List.mem_cons_self)
   have key:∀i,i≤len→∃(xs:List α),xs.length=i∧∀(k:Nat) (hk:k<xs.length),∃cs,R xs[k] cs∧cs.length=n∧∀j u,cs[j]?=some u→W.cell? (a.add (k*n+j))=some u:=by
    intro i
    induction i with
    | zero=>intro _;exact ⟨[],rfl,fun k hk=>absurd hk (by simp)⟩
    | succ i ih=>
      intro hi
      obtain ⟨xs,hl,hc⟩:=ih (by omega)
      have h1:=hat i (by omega)
      rw [List.getElem?_eq_getElem (by omega)] at h1
      obtain ⟨cs',h2,h3⟩:=Option.bind_eq_some_iff.1 h1
      obtain ⟨y,hy,hyl⟩:=hR m cs' _ (Nat.lt_succ_self _) h3 (hwe _ (List.getElem_mem _))
      obtain ⟨_,_,h4⟩:=World.cells?_some h2
      refine ⟨xs++[y],by rw [List.length_append,hl];rfl,fun k hk=>?_⟩
      rcases Nat.lt_or_ge k xs.length with hlt | hge
      · obtain ⟨cs,h5,h6,h7⟩:=hc k hlt
        refine ⟨cs,?_,h6,h7⟩
        rw [List.getElem_append_left hlt]
        exact h5
      · have hkl:k<xs.length+1:=by simpa using hk
        obtain rfl:k=xs.length:=by omega
        refine ⟨cs',?_,hyl,fun j u hj=>?_⟩
        · rw [List.getElem_append_right (Nat.le_refl _)]
          simpa using hy
        · have hj':j<n:=by rw [←hyl];exact (List.getElem?_eq_some_iff.1 hj).1
          have h8:=h4 j hj'
          rw [hj,Go.Deep.add_add,←hl] at h8
          exact h8
   obtain ⟨xs,hl,hc⟩:=key len (Nat.le_refl _)
   subst hl
   refine ⟨some a,xs,cap,e5,⟨hlc,fun h=>by cases h⟩,Nat.le_trans hlc hcm,by rw [←hel];exact hwl,fun hpos=>?_⟩
   obtain ⟨cs0,_,hl0,h0⟩:=hc 0 hpos
   have h1:=h0 0 _ (List.getElem?_eq_getElem (by omega))
   have ha0:a.add (0*n+0)=a:=by unfold Addr.add;simp
   rw [ha0] at h1
   obtain ⟨h2,h3⟩:=cell_place h1
   refine ⟨a.block,a.off,congrArg some h2,h3,fun k hk=>?_⟩
   obtain ⟨cs,h4,_,h5⟩:=hc k hk
   refine ⟨cs,h4,fun j u hj=>?_⟩
   have h6:=h5 j u hj
   rw [h2,addr_off,←Nat.add_assoc] at h6
   exact h6
theorem o_nodeF:∀(fuel:Nat) (cs:List Value) (x:DataW H × List MemPlace),DataW.trod enc Tryd.prog W 0 sp held fuel 35 cs=some x→(∀k∈x.1.weights Tryd.prog 35,k≤reachBytes)→∃n:Node,(Pl.Lens n∧Pl.Few n)∧CRep (GW W) W (Sh.nodeLit Sh.rw n) cs:=by
 intro fuel
 induction fuel using Nat.strongRecOn with
 | _ fuel ih=>
   intro cs x h hw
   obtain ⟨xs,m,rfl,hx,hl,hxl,hf⟩:=DataW.trod_struct Tryd.underlying35 h
   have hl:cs.length=8:=hl.trans (by kernel_rfl)
   obtain ⟨y0,e0⟩:=fld hxl hf 0 _ rfl
   obtain ⟨y1,e1⟩:=fld hxl hf 1 _ rfl
   have hx2:=hf 2 _ rfl
   obtain ⟨y2,e2⟩:=fld hxl hf 2 _ rfl
   rw [e2] at hx2
   have hw2:∀k∈y2.1.weights Tryd.prog 33,k≤reachBytes:=fun k hk=>by
    refine hw k ?_
    rw [hx]
    simp only [DataW.weights,Tryd.underlying35]
    match xs,hxl,hx2 with
    | z0::z1::z2::r,_,hx2=>
      simp at hx2
      subst hx2
      simp only [List.map_cons,DataW.weightsEach]
      exact List.mem_append_right _ (List.mem_append_right _ (List.mem_append_left _ hk))
   obtain ⟨y3,e3⟩:=fld hxl hf 3 _ rfl
   obtain ⟨y4,e4⟩:=fld hxl hf 4 _ rfl
   have e0:DataW.trod enc Tryd.prog W 0 sp held m 3 ((cs.drop 0).take (Tryd.prog.cellsOf 3))=some y0:=e0
   have e1:DataW.trod enc Tryd.prog W 0 sp held m 32 ((cs.drop 1).take (Tryd.prog.cellsOf 32))=some y1:=e1
   have e2:DataW.trod enc Tryd.prog W 0 sp held m 33 ((cs.drop 5).take (Tryd.prog.cellsOf 33))=some y2:=e2
   have e3:DataW.trod enc Tryd.prog W 0 sp held m 3 ((cs.drop 6).take (Tryd.prog.cellsOf 3))=some y3:=e3
   have e4:DataW.trod enc Tryd.prog W 0 sp held m 3 ((cs.drop 7).take (Tryd.prog.cellsOf 3))=some y4:=e4
   rw [show Tryd.prog.cellsOf 3=1 by kernel_rfl] at e0 e3 e4
   rw [show Tryd.prog.cellsOf 32=4 by kernel_rfl] at e1
   rw [show Tryd.prog.cellsOf 33=1 by kernel_rfl] at e2
   match cs,hl with
   | [v0,v1,v2,v3,v4,v5,v6,v7],_=>
   obtain ⟨a0,k0⟩:=o_int Tryd.underlying3 e0
   obtain ⟨S,k1⟩:=o_set Tryd.underlying32 Tryd.underlying30 (by kernel_rfl) (by kernel_rfl) e1
   obtain ⟨a3,k3⟩:=o_int Tryd.underlying3 e3
   obtain ⟨a4,k4⟩:=o_int Tryd.underlying3 e4
   have e2:DataW.trod enc Tryd.prog W 0 sp held m 33 [v5]=some y2:=e2
   obtain ⟨A,ns,cap,hv,hfit,hmax,hby,hrows⟩:=rows_openW (α:={n:Node // Pl.Lens n∧Pl.Few n}) (R:=fun n cs=>CRep (GW W) W (Sh.nodeLit Sh.rw n.1) cs) Tryd.underlying33 (show Tryd.prog.cellsOf 35=8 by kernel_rfl) (by decide) (fun f2 cs x hlt h hw=>by
    obtain ⟨n,h1,h2⟩:=ih f2 (by omega) cs x h hw
    exact ⟨⟨n,h1⟩,h2,h2.1⟩) e2 hw2
   have ks:TRep (GW W) W (.slc (ns.map fun n=>Sh.nodeLit Sh.rw n.1)) v5:=by
    rw [hv]
    exact slc_of (n:=8) (fun x _=>rfl) (fun x cs _ h=>h) hfit hrows
   refine ⟨.mk a0 S (ns.map (·.1)) a3 a4,?_,?_⟩
   · rw [Pl.Lens,Pl.Few]
     have hb:Tryd.prog.bytesOf 35=80:=by kernel_rfl
     rw [hb] at hby
     refine ⟨⟨by rw [List.length_map];exact Nat.le_trans hmax (by decide),Pl.lensL_iff.2 fun n hn=>?_⟩,by rw [List.length_map];unfold reachBytes at hby;omega,Pl.fewL_iff.2 fun n hn=>?_⟩
     · obtain ⟨y,-,rfl⟩:=List.mem_map.1 hn
       exact y.2.1
     · obtain ⟨y,-,rfl⟩:=List.mem_map.1 hn
       exact y.2.2
   · have kk:TRep (GW W) W (.slc (Sh.rw Node nodeRow (ns.map (·.1)))) v5:=by
      have e:Sh.rw Node nodeRow (ns.map (·.1))=ns.map fun n=>Sh.nodeLit Sh.rw n.1:=by
       unfold Sh.rw
       rw [List.map_map]
       exact List.map_congr_left fun n _=>Sh.nodeRow_lit n.1
      rw [e];exact ks
     refine crep_cons (k0.2 0 _ _ rfl rfl) ?_
     refine crep_cons (k1.2 0 _ _ rfl rfl) (crep_cons (k1.2 1 _ _ rfl rfl) (crep_cons (k1.2 2 _ _ rfl rfl) (crep_cons (k1.2 3 _ _ rfl rfl) ?_)))
     exact crep_cons kk (crep_cons (k3.2 0 _ _ rfl rfl) (crep_cons (k4.2 0 _ _ rfl rfl) crep_nil))
end Op2
end Go.Proofs.YtbpihhelojjedaaDoor
