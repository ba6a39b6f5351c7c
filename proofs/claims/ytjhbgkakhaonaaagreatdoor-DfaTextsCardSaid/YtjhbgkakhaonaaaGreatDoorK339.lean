/- Texts that the proof leans on. -/
import Derived.Test.YtjhbgkakhaonaaaGreatDoorK338
import Derived.ChangeArms
import Derived.OpenShut
import Derived.DataReads
import Derived.WideShapes
import Derived.Deep.Slices
import Derived.Laws.OwnMore
import Derived.Laws.AppendOwn
set_option linter.unusedVariables false
set_option linter.unusedSimpArgs false
set_option maxRecDepth 100000
set_option maxHeartbeats 4000000
namespace Go.Proofs.YtjhbgkakhaonaaaGreatDoor
open Go Go.RowKit
open Ab Sh
namespace Gn
theorem match_often_w {rec:Node→ByteArray→List Bool→Option (List Bool)} (hrec:∀{p0:Node} {p1:ByteArray} {p2:List Bool} {r:List Bool},rec p0 p1 p2=some r→FunL Tryz.prog 77 [.agg [fI .i64 p0.kind,fI .u64 (p0.set.a.toNat:Int),fI .u64 (p0.set.b.toNat:Int),fI .u64 (p0.set.c.toNat:Int),fI .u64 (p0.set.d.toNat:Int),.t (.slc (rw _ nodeRow p0.kids)),fI .i64 p0.min,fI .i64 p0.max],fS p1,.t (.slc (rw _ cB p2))] 4 1 (rw _ cB r)) {N:Nat} {p0:Node} {p1:ByteArray} {p2:List Bool} {r:List Bool} (h:match_often_g rec N p0 p1 p2=some r):FunL Tryz.prog 93 [.agg [fI .i64 p0.kind,fI .u64 (p0.set.a.toNat:Int),fI .u64 (p0.set.b.toNat:Int),fI .u64 (p0.set.c.toNat:Int),fI .u64 (p0.set.d.toNat:Int),.t (.slc (rw _ nodeRow p0.kids)),fI .i64 p0.min,fI .i64 p0.max],fS p1,.t (.slc (rw _ cB p2))] 4 1 (rw _ cB r):=by
 refine list_w lay_ok Tryz.call93 Tryz.func93 rfl ?_
 intro A W E Q R hE hR hf hQ;rcases W with ⟨ar,cm,conj,cv,sl,sc,ct,sa,ss,ll,_,_,_,_,mi,mx,_,_,_,_,_⟩
 rw [←hR]
 unfold match_often_g at h
 skip
 cbv
 refine L_list hE hR h (fun _ e=>slices_Clone_159_w e) (by subst hR;rfl) rfl fun l1 h=>?_;cbv
 refine L_for hE lay_ok 2 (fun g:Int ×(List Bool)× Nat=>[(7,.lst 1),(15,fI .i64 g.1)]) (fun g=>[(1,.list 4 1 (R _ cB g.2.1))]) (fun g=>match_often_l1 rec N p0 p1 g.2.2 g.1 g.2.1=some r) (fun g=>g.2.2) (_,_,N) h ?_ ?_
 · (cbv;(try simp only [e_rnil hR]);repeat' (first | exact trivial | exact rfl | exact Or.inr trivial | apply And.intro))
 rintro ⟨v2,v3,m1⟩ h Q1 hN1 hT1 hX1
 have h:match_often_l1 rec N p0 p1 m1 v2 v3=some r:=h
 cases m1 with
 | zero=>exact nomatch (show (none:Option _)=some _ from h)
 | succ m1=>
 rw [match_often_l1] at h
 rw [q_ar hE,q_cm hE] at h
 cbv
 refine L_if hE h (fun h=>?_) (fun h=>?_)<;>cbv
 · refine L_rowN hE hR h fun r4 h=>?_;cbv
   refine L_listB hE hR h (fun _ e=>hrec e) rfl (by subst hR;rfl) flat_B fun l5 h=>?_;cbv
   refine L_bare hE hR h (fun _ e=>slices_Equal_160_w e) rfl (by subst hR;rfl) (fun _=>rfl) fun a6 h=>?_;cbv
   refine L_if hE h (fun h=>?_) (fun h=>?_)<;>cbv
   · refine hX1 _ _ ?_;cbv
     refine L_listB hE hR h (fun _ e=>slices_Clone_159_w e) rfl (by subst hR;rfl) flat_B fun l7 h=>?_;cbv
     refine L_for hE lay_ok 4 (fun g:Int ×(List Bool)×(List Bool)× Nat=>[(7,.lst 1),(8,.lst 2),(9,.lst 3),(10,fI .i64 g.1),(23,.lst 2),(24,.lst 2),(30,.lst 3)]) (fun g=>[(1,.list 4 1 (R _ cB g.2.1)),(3,.list 4 1 (R _ cB g.2.2.1))]) (fun g=>match_often_l2 rec N p0 p1 g.2.2.2 g.1 g.2.1 g.2.2.1=some r) (fun g=>g.2.2.2) (_,_,_,N) h ?_ ?_
     · (cbv;(try simp only [e_rnil hR]);repeat' (first | exact trivial | exact rfl | exact Or.inr trivial | apply And.intro))
     rintro ⟨v8,v9,v10,m2⟩ h Q2 hN2 hT2 hX2
     have h:match_often_l2 rec N p0 p1 m2 v8 v9 v10=some r:=h
     cases m2 with
     | zero=>exact nomatch (show (none:Option _)=some _ from h)
     | succ m2=>
     rw [match_often_l2] at h
     rw [q_cm hE] at h
     cbv
     refine L_rgJ hE lay_ok h 4 (fun j26:Bool=>[(41,fB j26)]) (fun j26=>[]) (fun j26 h=>?_) (fun j26 h=>?_)<;>cbv
     · refine L_if hE h (fun h=>?_) (fun h=>?_)<;>cbv
       · cases h;(cbv;(try simp only [e_rnil hR]);repeat' (first | exact trivial | exact rfl | exact Or.inr trivial | apply And.intro))
       cases h;(cbv;(try simp only [e_rnil hR]);repeat' (first | exact trivial | exact rfl | exact Or.inr trivial | apply And.intro))
     refine L_if hE h (fun h=>?_) (fun h=>?_)<;>cbv
     · refine L_rowN hE hR h fun r11 h=>?_;cbv
       refine L_listB hE hR h (fun _ e=>hrec e) rfl (by subst hR;rfl) flat_B fun l12 h=>?_;cbv
       refine L_keep hE lay_ok Tryz.call92 Tryz.func92 rfl ?_
       intro A3 E3 Q3 hE3 hf3 hQ3;cbv
       refine L_for hE3 lay_ok 5 (fun g:Bool × Int ×(List Bool)× Nat=>[(0,.lst 3),(1,.lst 4),(5,fB g.1),(7,.lst 3),(9,fI .i64 g.2.1)]) (fun g=>[(3,.list 4 1 (R _ cB g.2.2.1))]) (fun g=>match_often_l4 (match_often_l2 rec N p0 p1 m2) v10 v8 l12 g.2.2.2 g.1 g.2.1 g.2.2.1=some r) (fun g=>g.2.2.2) (_,_,_,N) h ?_ ?_
       · (cbv;(try simp only [e_rnil hR]);repeat' (first | exact trivial | exact rfl | exact Or.inr trivial | apply And.intro))
       rintro ⟨v13,v14,v15,m4⟩ h Q4 hN4 hT4 hX4
       have h:match_often_l4 (match_often_l2 rec N p0 p1 m2) v10 v8 l12 m4 v13 v14 v15=some r:=h
       cases m4 with
       | zero=>exact nomatch (show (none:Option _)=some _ from h)
       | succ m4=>
       rw [match_often_l4] at h
       rw [q_ar hE,q_cm hE,q_ll hE,←hR] at h
       cbv
       refine L_if hE3 h (fun h=>?_) (fun h=>?_)<;>cbv
       · refine L_rgJ hE3 lay_ok h 5 (fun j29:Bool=>[(5,fB j29)]) (fun j29=>[]) (fun j29 h=>?_) (fun j29 h=>?_)<;>cbv
         · refine L_if hE3 h (fun h=>?_) (fun h=>?_)<;>cbv
           · cases h;(cbv;(try simp only [e_rnil hR]);repeat' (first | exact trivial | exact rfl | exact Or.inr trivial | apply And.intro))
           refine L_row hE3 hR h fun r16 h=>?_;cbv
           refine L_row hE3 hR h fun r17 h=>?_;cbv
           refine L_if hE3 h (fun h=>?_) (fun h=>?_)<;>cbv
           · refine L_row hE3 hR h fun r18 h=>?_;cbv
             refine L_row hE3 hR h fun r19 h=>?_;cbv
             cases h;(cbv;(try simp only [e_rnil hR]);repeat' (first | exact trivial | exact rfl | exact Or.inr trivial | apply And.intro))
           cases h;(cbv;(try simp only [e_rnil hR]);repeat' (first | exact trivial | exact rfl | exact Or.inr trivial | apply And.intro))
         refine L_rgJ hE3 lay_ok h 5 (fun j30:(List Bool)=>[]) (fun j30=>[(3,.list 4 1 (R _ cB j30))]) (fun j30 h=>?_) (fun j30 h=>?_)<;>cbv
         · refine L_row hE3 hR h fun r20 h=>?_;cbv
           refine L_row hE3 hR h fun r21 h=>?_;cbv
           refine L_if hE3 h (fun h=>?_) (fun h=>?_)<;>cbv
           · refine L_row hE3 hR h fun r22 h=>?_;cbv
             refine L_row hE3 hR h fun r23 h=>?_;cbv
             refine L_put hE3 hR h fun l24 e h=>?_;cbv at e;rw [e];clear e
             cases h;(cbv;(try simp only [e_rnil hR]);repeat' (first | exact trivial | exact rfl | exact Or.inr trivial | apply And.intro))
           refine L_row hE3 hR h fun r25 h=>?_;cbv
           refine L_row hE3 hR h fun r26 h=>?_;cbv
           refine L_row hE3 hR h fun r27 h=>?_;cbv
           refine L_row hE3 hR h fun r28 h=>?_;cbv
           refine L_put hE3 hR h fun l29 e h=>?_;cbv at e;rw [e];clear e
           cases h;(cbv;(try simp only [e_rnil hR]);repeat' (first | exact trivial | exact rfl | exact Or.inr trivial | apply And.intro))
         refine hN4 _ (_,_,_,m4) [] h (Nat.lt_succ_self _) trivial ?_;(cbv;(try simp only [e_rnil hR]);repeat' (first | exact trivial | exact rfl | exact Or.inr trivial | apply And.intro))
       refine hX4 _ _ ?_;cbv
       refine And.left (hQ3 _ _ rfl ?_);cbv
       refine L_if hE h (fun h=>?_) (fun h=>?_)<;>cbv
       · refine hX2 _ _ ?_;cbv
         exact And.left (hQ _ _ rfl (.inl ⟨_,rfl,by cases h;subst hR;rfl⟩))
       refine hN2 _ (_,_,_,m2) [(1,4)] h (Nat.lt_succ_self _) ⟨hf _,hf _,trivial⟩ ?_;(cbv;(try simp only [e_rnil hR]);repeat' (first | exact trivial | exact rfl | exact Or.inr trivial | apply And.intro))
     refine hX2 _ _ ?_;cbv
     exact And.left (hQ _ _ rfl (.inl ⟨_,rfl,by cases h;subst hR;rfl⟩))
   refine hN1 _ (_,_,m1) [(1,2)] h (Nat.lt_succ_self _) ⟨hf _,hf _,trivial⟩ ?_;(cbv;(try simp only [e_rnil hR]);repeat' (first | exact trivial | exact rfl | exact Or.inr trivial | apply And.intro))
 refine hX1 _ _ ?_;cbv
 refine L_listB hE hR h (fun _ e=>slices_Clone_159_w e) rfl (by subst hR;rfl) flat_B fun l30 h=>?_;cbv
 refine L_for hE lay_ok 3 (fun g:Int ×(List Bool)×(List Bool)× Nat=>[(7,.lst 1),(9,.lst 2),(10,fI .i64 g.1),(30,.lst 2)]) (fun g=>[(1,.list 4 1 (R _ cB g.2.1)),(2,.list 4 1 (R _ cB g.2.2.1))]) (fun g=>match_often_l5 rec N p0 p1 g.2.2.2 g.1 g.2.1 g.2.2.1=some r) (fun g=>g.2.2.2) (_,_,_,N) h ?_ ?_
 · (cbv;(try simp only [e_rnil hR]);repeat' (first | exact trivial | exact rfl | exact Or.inr trivial | apply And.intro))
 rintro ⟨v31,v32,v33,m5⟩ h Q5 hN5 hT5 hX5
 have h:match_often_l5 rec N p0 p1 m5 v31 v32 v33=some r:=h
 cases m5 with
 | zero=>exact nomatch (show (none:Option _)=some _ from h)
 | succ m5=>
 rw [match_often_l5] at h
 rw [q_cm hE] at h
 cbv
 refine L_rgJ hE lay_ok h 3 (fun j36:Bool=>[(41,fB j36)]) (fun j36=>[]) (fun j36 h=>?_) (fun j36 h=>?_)<;>cbv
 · refine L_if hE h (fun h=>?_) (fun h=>?_)<;>cbv
   · cases h;(cbv;(try simp only [e_rnil hR]);repeat' (first | exact trivial | exact rfl | exact Or.inr trivial | apply And.intro))
   cases h;(cbv;(try simp only [e_rnil hR]);repeat' (first | exact trivial | exact rfl | exact Or.inr trivial | apply And.intro))
 refine L_if hE h (fun h=>?_) (fun h=>?_)<;>cbv
 · refine L_rowN hE hR h fun r34 h=>?_;cbv
   refine L_listB hE hR h (fun _ e=>hrec e) rfl (by subst hR;rfl) flat_B fun l35 h=>?_;cbv
   refine L_keep hE lay_ok Tryz.call92 Tryz.func92 rfl ?_
   intro A6 E6 Q6 hE6 hf6 hQ6;cbv
   refine L_for hE6 lay_ok 4 (fun g:Bool × Int ×(List Bool)× Nat=>[(0,.lst 2),(1,.lst 3),(5,fB g.1),(7,.lst 2),(9,fI .i64 g.2.1)]) (fun g=>[(2,.list 4 1 (R _ cB g.2.2.1))]) (fun g=>match_often_l7 (match_often_l5 rec N p0 p1 m5) v33 v31 l35 g.2.2.2 g.1 g.2.1 g.2.2.1=some r) (fun g=>g.2.2.2) (_,_,_,N) h ?_ ?_
   · (cbv;(try simp only [e_rnil hR]);repeat' (first | exact trivial | exact rfl | exact Or.inr trivial | apply And.intro))
   rintro ⟨v36,v37,v38,m7⟩ h Q7 hN7 hT7 hX7
   have h:match_often_l7 (match_often_l5 rec N p0 p1 m5) v33 v31 l35 m7 v36 v37 v38=some r:=h
   cases m7 with
   | zero=>exact nomatch (show (none:Option _)=some _ from h)
   | succ m7=>
   rw [match_often_l7] at h
   rw [q_ar hE,q_cm hE,q_ll hE,←hR] at h
   cbv
   refine L_if hE6 h (fun h=>?_) (fun h=>?_)<;>cbv
   · refine L_rgJ hE6 lay_ok h 4 (fun j39:Bool=>[(5,fB j39)]) (fun j39=>[]) (fun j39 h=>?_) (fun j39 h=>?_)<;>cbv
     · refine L_if hE6 h (fun h=>?_) (fun h=>?_)<;>cbv
       · cases h;(cbv;(try simp only [e_rnil hR]);repeat' (first | exact trivial | exact rfl | exact Or.inr trivial | apply And.intro))
       refine L_row hE6 hR h fun r39 h=>?_;cbv
       refine L_row hE6 hR h fun r40 h=>?_;cbv
       refine L_if hE6 h (fun h=>?_) (fun h=>?_)<;>cbv
       · refine L_row hE6 hR h fun r41 h=>?_;cbv
         refine L_row hE6 hR h fun r42 h=>?_;cbv
         cases h;(cbv;(try simp only [e_rnil hR]);repeat' (first | exact trivial | exact rfl | exact Or.inr trivial | apply And.intro))
       cases h;(cbv;(try simp only [e_rnil hR]);repeat' (first | exact trivial | exact rfl | exact Or.inr trivial | apply And.intro))
     refine L_rgJ hE6 lay_ok h 4 (fun j40:(List Bool)=>[]) (fun j40=>[(2,.list 4 1 (R _ cB j40))]) (fun j40 h=>?_) (fun j40 h=>?_)<;>cbv
     · refine L_row hE6 hR h fun r43 h=>?_;cbv
       refine L_row hE6 hR h fun r44 h=>?_;cbv
       refine L_if hE6 h (fun h=>?_) (fun h=>?_)<;>cbv
       · refine L_row hE6 hR h fun r45 h=>?_;cbv
         refine L_row hE6 hR h fun r46 h=>?_;cbv
         refine L_put hE6 hR h fun l47 e h=>?_;cbv at e;rw [e];clear e
         cases h;(cbv;(try simp only [e_rnil hR]);repeat' (first | exact trivial | exact rfl | exact Or.inr trivial | apply And.intro))
       refine L_row hE6 hR h fun r48 h=>?_;cbv
       refine L_row hE6 hR h fun r49 h=>?_;cbv
       refine L_row hE6 hR h fun r50 h=>?_;cbv
       refine L_row hE6 hR h fun r51 h=>?_;cbv
       refine L_put hE6 hR h fun l52 e h=>?_;cbv at e;rw [e];clear e
       cases h;(cbv;(try simp only [e_rnil hR]);repeat' (first | exact trivial | exact rfl | exact Or.inr trivial | apply And.intro))
     refine hN7 _ (_,_,_,m7) [] h (Nat.lt_succ_self _) trivial ?_;(cbv;(try simp only [e_rnil hR]);repeat' (first | exact trivial | exact rfl | exact Or.inr trivial | apply And.intro))
   refine hX7 _ _ ?_;cbv
   refine And.left (hQ6 _ _ rfl ?_);cbv
   refine L_if hE h (fun h=>?_) (fun h=>?_)<;>cbv
   · refine hX5 _ _ ?_;cbv
     exact And.left (hQ _ _ rfl (.inl ⟨_,rfl,by cases h;subst hR;rfl⟩))
   refine hN5 _ (_,_,_,m5) [(1,3)] h (Nat.lt_succ_self _) ⟨hf _,hf _,trivial⟩ ?_;(cbv;(try simp only [e_rnil hR]);repeat' (first | exact trivial | exact rfl | exact Or.inr trivial | apply And.intro))
 refine hX5 _ _ ?_;cbv
 exact And.left (hQ _ _ rfl (.inl ⟨_,rfl,by cases h;subst hR;rfl⟩))
theorem match_moved_w:∀{N:Nat} {p0:Node} {p1:ByteArray} {p2:List Bool} {r:List Bool},match_moved_g N p0 p1 p2=some r→FunL Tryz.prog 77 [.agg [fI .i64 p0.kind,fI .u64 (p0.set.a.toNat:Int),fI .u64 (p0.set.b.toNat:Int),fI .u64 (p0.set.c.toNat:Int),fI .u64 (p0.set.d.toNat:Int),.t (.slc (rw _ nodeRow p0.kids)),fI .i64 p0.min,fI .i64 p0.max],fS p1,.t (.slc (rw _ cB p2))] 4 1 (rw _ cB r):=by
 intro N
 induction N with
 | zero=>intros;rename_i h;exact nomatch (show (none:Option _)=some _ from h)
 | succ N ih=>
 intro p0 p1 p2 r h
 refine list_w lay_ok Tryz.call77 Tryz.func77 rfl ?_
 intro A W E Q R hE hR hf hQ;rcases W with ⟨ar,cm,conj,cv,sl,sc,ct,sa,ss,ll,_,_,_,_,mi,mx,_,_,_,_,_⟩
 rw [←hR]
 rw [match_moved_g] at h
 rw [q_cm hE,q_ll hE,←hR] at h
 cbv
 refine L_zro hE hR h (by decide) fun l1 e h=>?_;cbv at e;rw [e];clear e
 refine L_cd hE lay_ok ?_;cbv
 refine L_if hE h (fun h=>?_) (fun h=>?_)<;>cbv
 · refine L_for hE lay_ok 2 (fun g:Int ×(List Bool)× Nat=>[(7,.lst 1),(15,.lst 1),(22,fI .i64 g.1)]) (fun g=>[(1,.list 4 1 (R _ cB g.2.1))]) (fun g=>match_moved_l1 p0 p1 p2 g.2.2 g.1 g.2.1=some r) (fun g=>g.2.2) (_,_,N) h ?_ ?_
   · (cbv;(try simp only [e_rnil hR]);repeat' (first | exact trivial | exact rfl | exact Or.inr trivial | apply And.intro))
   rintro ⟨v2,v3,m1⟩ h Q1 hN1 hT1 hX1
   have h:match_moved_l1 p0 p1 p2 m1 v2 v3=some r:=h
   cases m1 with
   | zero=>exact nomatch (show (none:Option _)=some _ from h)
   | succ m1=>
   rw [match_moved_l1] at h
   rw [q_ar hE,q_cm hE,q_sl hE,q_sa hE] at h
   cbv
   refine L_if hE h (fun h=>?_) (fun h=>?_)<;>cbv
   · refine L_tail hE lay_ok (by kernel_rfl) 16 (by kernel_rfl) ?_;cbv
     refine L_row hE hR h fun r4 h=>?_;cbv
     refine L_if hE h (fun h=>?_) (fun h=>?_)<;>cbv
     · refine L_if hE h (fun h=>?_) (fun h=>?_)<;>cbv
       · refine L_if hE h (fun h=>?_) (fun h=>?_)<;>cbv
         · refine L_if hE h (fun h=>?_) (fun h=>?_)<;>cbv
           · refine L_if hE h (fun h=>?_) (fun h=>?_)<;>cbv
             · refine L_sin hE h fun h=>?_
               refine L_if hE h (fun h=>?_) (fun h=>?_)<;>cbv
               · refine L_pcall hE hR h (fun _ e=>charset_Has_w e) rfl rfl fun a5 h=>?_;cbv
                 refine L_if hE h (fun h=>?_) (fun h=>?_)<;>cbv
                 · refine L_row hE hR h fun r6 h=>?_;cbv
                   refine L_row hE hR h fun r7 h=>?_;cbv
                   refine L_put hE hR h fun l8 e h=>?_;cbv at e;rw [e];clear e
                   refine hN1 _ (_,_,m1) [] h (Nat.lt_succ_self _) trivial ?_;(cbv;(try simp only [e_rnil hR]);repeat' (first | exact trivial | exact rfl | exact Or.inr trivial | apply And.intro))
                 exact nomatch h
               exact nomatch h
             exact nomatch h
           exact nomatch h
         exact nomatch h
       exact nomatch h
     refine L_if hE h (fun h=>?_) (fun h=>?_)<;>cbv
     · exact nomatch h
     refine L_if hE h (fun h=>?_) (fun h=>?_)<;>cbv
     · exact nomatch h
     refine L_if hE h (fun h=>?_) (fun h=>?_)<;>cbv
     · exact nomatch h
     refine L_if hE h (fun h=>?_) (fun h=>?_)<;>cbv
     · exact nomatch h
     refine L_if hE h (fun h=>?_) (fun h=>?_)<;>cbv
     · exact nomatch h
     refine L_if hE h (fun h=>?_) (fun h=>?_)<;>cbv
     · exact nomatch h
     refine L_row hE hR h fun r9 h=>?_;cbv
     refine L_row hE hR h fun r10 h=>?_;cbv
     refine L_put hE hR h fun l11 e h=>?_;cbv at e;rw [e];clear e
     refine hN1 _ (_,_,m1) [] h (Nat.lt_succ_self _) trivial ?_;(cbv;(try simp only [e_rnil hR]);repeat' (first | exact trivial | exact rfl | exact Or.inr trivial | apply And.intro))
   refine hX1 _ _ ?_;cbv
   exact And.left (hQ _ _ rfl (.inl ⟨_,rfl,by cases h;subst hR;rfl⟩))
 refine L_cd hE lay_ok ?_;cbv
 refine L_if hE h (fun h=>?_) (fun h=>?_)<;>cbv
 · refine L_cpy hE hR h (fun _=>rfl) fun l12 e h=>?_;cbv at e;rw [e];clear e
   refine L_for hE lay_ok 2 (fun g:Int ×(List Bool)× Nat=>[(7,.lst 1),(50,fI .i64 g.1)]) (fun g=>[(1,.list 4 1 (R _ cB g.2.1))]) (fun g=>match_moved_l2 (match_moved_g N) p0 p1 g.2.2 g.1 g.2.1=some r) (fun g=>g.2.2) (_,_,N) h ?_ ?_
   · (cbv;(try simp only [e_rnil hR]);repeat' (first | exact trivial | exact rfl | exact Or.inr trivial | apply And.intro))
   rintro ⟨v13,v14,m2⟩ h Q2 hN2 hT2 hX2
   have h:match_moved_l2 (match_moved_g N) p0 p1 m2 v13 v14=some r:=h
   cases m2 with
   | zero=>exact nomatch (show (none:Option _)=some _ from h)
   | succ m2=>
   rw [match_moved_l2] at h
   rw [q_ar hE,q_cm hE,q_ll hE,←hR] at h
   cbv
   refine L_if hE h (fun h=>?_) (fun h=>?_)<;>cbv
   · refine L_rowN hE hR h fun r15 h=>?_;cbv
     refine L_listB hE hR h (fun _ e=>ih e) rfl (by subst hR;rfl) flat_B fun l16 h=>?_;cbv
     refine hN2 _ (_,_,m2) [(1,3)] h (Nat.lt_succ_self _) ⟨hf _,hf _,trivial⟩ ?_;(cbv;(try simp only [e_rnil hR]);repeat' (first | exact trivial | exact rfl | exact Or.inr trivial | apply And.intro))
   refine hX2 _ _ ?_;cbv
   exact And.left (hQ _ _ rfl (.inl ⟨_,rfl,by cases h;subst hR;rfl⟩))
 refine L_cd hE lay_ok ?_;cbv
 refine L_if hE h (fun h=>?_) (fun h=>?_)<;>cbv
 · refine L_for hE lay_ok 2 (fun g:Int ×(List Bool)× Nat=>[(7,.lst 1),(15,.lst 1),(64,fI .i64 g.1)]) (fun g=>[(1,.list 4 1 (R _ cB g.2.1))]) (fun g=>match_moved_l3 (match_moved_g N) N p0 p1 p2 g.2.2 g.1 g.2.1=some r) (fun g=>g.2.2) (_,_,N) h ?_ ?_
   · (cbv;(try simp only [e_rnil hR]);repeat' (first | exact trivial | exact rfl | exact Or.inr trivial | apply And.intro))
   rintro ⟨v17,v18,m3⟩ h Q3 hN3 hT3 hX3
   have h:match_moved_l3 (match_moved_g N) N p0 p1 p2 m3 v17 v18=some r:=h
   cases m3 with
   | zero=>exact nomatch (show (none:Option _)=some _ from h)
   | succ m3=>
   rw [match_moved_l3] at h
   rw [q_cm hE,q_ll hE,←hR] at h
   cbv
   refine L_if hE h (fun h=>?_) (fun h=>?_)<;>cbv
   · refine L_rowN hE hR h fun r19 h=>?_;cbv
     refine L_list hE hR h (fun _ e=>ih e) (by subst hR;rfl) rfl fun l20 h=>?_;cbv
     refine L_keep hE lay_ok Tryz.call92 Tryz.func92 rfl ?_
     intro A4 E4 Q4 hE4 hf4 hQ4;cbv
     refine L_for hE4 lay_ok 4 (fun g:Bool × Int ×(List Bool)× Nat=>[(0,.lst 1),(1,.lst 3),(5,fB g.1),(7,.lst 1),(9,fI .i64 g.2.1)]) (fun g=>[(1,.list 4 1 (R _ cB g.2.2.1))]) (fun g=>match_moved_l5 (match_moved_l3 (match_moved_g N) N p0 p1 p2 m3) v17 v18 l20 g.2.2.2 g.1 g.2.1 g.2.2.1=some r) (fun g=>g.2.2.2) (_,_,_,N) h ?_ ?_
     · (cbv;(try simp only [e_rnil hR]);repeat' (first | exact trivial | exact rfl | exact Or.inr trivial | apply And.intro))
     rintro ⟨v21,v22,v23,m5⟩ h Q5 hN5 hT5 hX5
     have h:match_moved_l5 (match_moved_l3 (match_moved_g N) N p0 p1 p2 m3) v17 v18 l20 m5 v21 v22 v23=some r:=h
     cases m5 with
     | zero=>exact nomatch (show (none:Option _)=some _ from h)
     | succ m5=>
     rw [match_moved_l5] at h
     rw [q_ar hE,q_cm hE,q_ll hE,←hR] at h
     cbv
     refine L_if hE4 h (fun h=>?_) (fun h=>?_)<;>cbv
     · refine L_rgJ hE4 lay_ok h 4 (fun j7:Bool=>[(5,fB j7)]) (fun j7=>[]) (fun j7 h=>?_) (fun j7 h=>?_)<;>cbv
       · refine L_if hE4 h (fun h=>?_) (fun h=>?_)<;>cbv
         · cases h;(cbv;(try simp only [e_rnil hR]);repeat' (first | exact trivial | exact rfl | exact Or.inr trivial | apply And.intro))
         refine L_row hE4 hR h fun r24 h=>?_;cbv
         refine L_row hE4 hR h fun r25 h=>?_;cbv
         refine L_if hE4 h (fun h=>?_) (fun h=>?_)<;>cbv
         · refine L_row hE4 hR h fun r26 h=>?_;cbv
           refine L_row hE4 hR h fun r27 h=>?_;cbv
           cases h;(cbv;(try simp only [e_rnil hR]);repeat' (first | exact trivial | exact rfl | exact Or.inr trivial | apply And.intro))
         cases h;(cbv;(try simp only [e_rnil hR]);repeat' (first | exact trivial | exact rfl | exact Or.inr trivial | apply And.intro))
       refine L_rgJ hE4 lay_ok h 4 (fun j8:(List Bool)=>[]) (fun j8=>[(1,.list 4 1 (R _ cB j8))]) (fun j8 h=>?_) (fun j8 h=>?_)<;>cbv
       · refine L_row hE4 hR h fun r28 h=>?_;cbv
         refine L_row hE4 hR h fun r29 h=>?_;cbv
         refine L_if hE4 h (fun h=>?_) (fun h=>?_)<;>cbv
         · refine L_row hE4 hR h fun r30 h=>?_;cbv
           refine L_row hE4 hR h fun r31 h=>?_;cbv
           refine L_put hE4 hR h fun l32 e h=>?_;cbv at e;rw [e];clear e
           cases h;(cbv;(try simp only [e_rnil hR]);repeat' (first | exact trivial | exact rfl | exact Or.inr trivial | apply And.intro))
         refine L_row hE4 hR h fun r33 h=>?_;cbv
         refine L_row hE4 hR h fun r34 h=>?_;cbv
         refine L_row hE4 hR h fun r35 h=>?_;cbv
         refine L_row hE4 hR h fun r36 h=>?_;cbv
         refine L_put hE4 hR h fun l37 e h=>?_;cbv at e;rw [e];clear e
         cases h;(cbv;(try simp only [e_rnil hR]);repeat' (first | exact trivial | exact rfl | exact Or.inr trivial | apply And.intro))
       refine hN5 _ (_,_,_,m5) [] h (Nat.lt_succ_self _) trivial ?_;(cbv;(try simp only [e_rnil hR]);repeat' (first | exact trivial | exact rfl | exact Or.inr trivial | apply And.intro))
     refine hX5 _ _ ?_;cbv
     refine And.left (hQ4 _ _ rfl ?_);cbv
     refine hN3 _ (_,_,m3) [] h (Nat.lt_succ_self _) trivial ?_;(cbv;(try simp only [e_rnil hR]);repeat' (first | exact trivial | exact rfl | exact Or.inr trivial | apply And.intro))
   refine hX3 _ _ ?_;cbv
   exact And.left (hQ _ _ rfl (.inl ⟨_,rfl,by cases h;subst hR;rfl⟩))
 refine L_if hE h (fun h=>?_) (fun h=>?_)<;>cbv
 · refine L_list hE hR h (fun _ e=>match_often_w (fun e=>ih e) e) (by subst hR;rfl) rfl fun l38 h=>?_;cbv
   exact And.left (hQ _ _ rfl (.inl ⟨_,rfl,by cases h;subst hR;rfl⟩))
 exact And.left (hQ _ _ rfl (.inl ⟨_,rfl,by cases h;subst hR;rfl⟩))
end Gn
end Go.Proofs.YtjhbgkakhaonaaaGreatDoor
namespace Go.Proofs.YtjhbgkakhaonaaaGreatDoor
open Go Go.RowKit
open Ab Sh
namespace Gn
theorem match_Ends_w {N:Nat} {p0:Node} {p1:ByteArray} {p2:Int} {r:List Int} (h:match_Ends_g N p0 p1 p2=some r):FunL Tryz.prog 53 [.agg [fI .i64 p0.kind,fI .u64 (p0.set.a.toNat:Int),fI .u64 (p0.set.b.toNat:Int),fI .u64 (p0.set.c.toNat:Int),fI .u64 (p0.set.d.toNat:Int),.t (.slc (rw _ nodeRow p0.kids)),fI .i64 p0.min,fI .i64 p0.max],fS p1,fI .i64 p2] 3 1 (rw _ (cI .i64) r):=by
 refine list_w lay_ok Tryz.call53 Tryz.func53 rfl ?_
 intro A W E Q R hE hR hf hQ;rcases W with ⟨ar,cm,conj,cv,sl,sc,ct,sa,ss,ll,_,_,_,_,mi,mx,_,_,_,_,_⟩
 rw [←hR]
 unfold match_Ends_g at h
 rw [q_ar hE,q_cm hE,q_sl hE] at h
 cbv
 refine L_rgJ hE lay_ok h 1 (fun j1:Bool=>[(23,fB j1)]) (fun j1=>[]) (fun j1 h=>?_) (fun j1 h=>?_)<;>cbv
 · refine L_call hE hR h (fun _ e=>regex_Right_w e) (by subst hR;rfl) rfl fun a1 h=>?_;cbv
   refine L_if hE h (fun h=>?_) (fun h=>?_)<;>cbv
   · cases h;(cbv;(try simp only [e_rnil hR]);repeat' (first | exact trivial | exact rfl | exact Or.inr trivial | apply And.intro))
   refine L_if hE h (fun h=>?_) (fun h=>?_)<;>cbv
   · cases h;(cbv;(try simp only [e_rnil hR]);repeat' (first | exact trivial | exact rfl | exact Or.inr trivial | apply And.intro))
   cases h;(cbv;(try simp only [e_rnil hR]);repeat' (first | exact trivial | exact rfl | exact Or.inr trivial | apply And.intro))
 refine L_if hE h (fun h=>?_) (fun h=>?_)<;>cbv
 · exact And.left (hQ _ _ rfl (.inr ⟨rfl,by cases h;rfl⟩))
 refine L_zro hE hR h (by decide) fun l2 e h=>?_;cbv at e;rw [e];clear e
 refine L_row hE hR h fun r3 h=>?_;cbv
 refine L_row hE hR h fun r4 h=>?_;cbv
 refine L_put hE hR h fun l5 e h=>?_;cbv at e;rw [e];clear e
 refine L_listB hE hR h (fun _ e=>match_moved_w e) rfl (by subst hR;rfl) flat_B fun l6 h=>?_;cbv
 refine L_for hE lay_ok 3 (fun g:Int ×(List Int)× Nat=>[(7,.lst 1),(8,.lst 3),(27,.lst 1),(28,.lst 1),(30,.elt 1 p2 0),(33,.lst 1),(34,.lst 2),(36,fI .i64 g.1)]) (fun g=>[(3,.list 3 1 (R _ (cI .i64) g.2.1))]) (fun g=>match_Ends_l1 l6 g.2.2 g.1 g.2.1=some r) (fun g=>g.2.2) (_,_,N) h ?_ ?_
 · (cbv;(try simp only [e_rnil hR]);repeat' (first | exact trivial | exact rfl | exact Or.inr trivial | apply And.intro))
 rintro ⟨v7,v8,m1⟩ h Q1 hN1 hT1 hX1
 have h:match_Ends_l1 l6 m1 v7 v8=some r:=h
 cases m1 with
 | zero=>exact nomatch (show (none:Option _)=some _ from h)
 | succ m1=>
 rw [match_Ends_l1] at h
 rw [q_ar hE,q_cm hE,q_ll hE,←hR] at h
 cbv
 refine L_if hE h (fun h=>?_) (fun h=>?_)<;>cbv
 · refine L_row hE hR h fun r9 h=>?_;cbv
   refine L_row hE hR h fun r10 h=>?_;cbv
   refine L_cdJ hE lay_ok h 4 (fun j3:(List Int)=>[(8,.lst 3)]) (fun j3=>[(3,.list 3 1 (R _ (cI .i64) j3))]) (fun j3 h=>?_) (fun j3 h=>?_)<;>cbv
   · refine L_if hE h (fun h=>?_) (fun h=>?_)<;>cbv
     · refine L_appL hE hR h rfl (hf _) (fun _=>rfl) (by decide) fun l11 e h=>?_;cbv at e;rw [e];clear e
       cases h;(cbv;(try simp only [e_rnil hR]);repeat' (first | exact trivial | exact rfl | exact Or.inr trivial | apply And.intro))
     cases h;(cbv;(try simp only [e_rnil hR]);repeat' (first | exact trivial | exact rfl | exact Or.inr trivial | apply And.intro))
   refine hN1 _ (_,_,m1) [] h (Nat.lt_succ_self _) trivial ?_;(cbv;(try simp only [e_rnil hR]);repeat' (first | exact trivial | exact rfl | exact Or.inr trivial | apply And.intro))
 refine hX1 _ _ ?_;cbv
 exact And.left (hQ _ _ rfl (.inl ⟨_,rfl,by cases h;subst hR;rfl⟩))
theorem match_Match_w {N:Nat} {p0:Node} {p1:ByteArray} {r:Bool} (h:match_Match_g N p0 p1=some r):FunS Tryz.prog 23 [.agg [fI .i64 p0.kind,fI .u64 (p0.set.a.toNat:Int),fI .u64 (p0.set.b.toNat:Int),fI .u64 (p0.set.c.toNat:Int),fI .u64 (p0.set.d.toNat:Int),.t (.slc (rw _ nodeRow p0.kids)),fI .i64 p0.min,fI .i64 p0.max],fS p1] (match_Match_s rw) r:=by
 refine fun_w lay_ok Tryz.call23 Tryz.func23 rfl ?_
 intro A W E Q R hE hR hf hQ;rcases W with ⟨ar,cm,conj,cv,sl,sc,ct,sa,ss,ll,_,_,_,_,mi,mx,_,_,_,_,_⟩
 rw [←hR]
 unfold match_Match_g at h
 rw [q_sl hE] at h
 cbv
 refine L_list hE hR h (fun _ e=>match_Ends_w e) (by subst hR;rfl) rfl fun l1 h=>?_;cbv
 refine L_bare hE hR h (fun _ e=>slices_Contains_150_w e) rfl (by subst hR;rfl) (fun _=>rfl) fun a2 h=>?_;cbv
 exact And.left (hQ _ _ _ rfl rfl (by cases h;subst hR;rfl))
end Gn
end Go.Proofs.YtjhbgkakhaonaaaGreatDoor
namespace Go.Proofs.YtjhbgkakhaonaaaGreatDoor
open Go Go.RowKit
open Ab Sh
namespace Gn
theorem l18_DfaTexts6_w {N:Nat} {p0:Node} {p1:ByteArray} {r:Bool} (h:l18_DfaTexts6_g N p0 p1=some r):FunS Tryz.prog 6 [.agg [fI .i64 p0.kind,fI .u64 (p0.set.a.toNat:Int),fI .u64 (p0.set.b.toNat:Int),fI .u64 (p0.set.c.toNat:Int),fI .u64 (p0.set.d.toNat:Int),.t (.slc (rw _ nodeRow p0.kids)),fI .i64 p0.min,fI .i64 p0.max],fS p1] (l18_DfaTexts6_s rw) r:=by
 refine fun_w lay_ok Tryz.call6 Tryz.func6 rfl ?_
 intro A W E Q R hE hR hf hQ;rcases W with ⟨ar,cm,conj,cv,sl,sc,ct,sa,ss,ll,_,_,_,_,mi,mx,_,_,_,_,_⟩
 rw [←hR]
 unfold l18_DfaTexts6_g at h
 rw [q_cm hE,q_conj hE,q_sl hE,q_ll hE,←hR] at h
 cbv
 refine L_rgJ hE lay_ok h 1 (fun j1:Bool=>[(20,fB j1)]) (fun j1=>[]) (fun j1 h=>?_) (fun j1 h=>?_)<;>cbv
 · refine L_call hE hR h (fun _ e=>l13_Great_w e) (by subst hR;rfl) rfl fun a1 h=>?_;cbv
   refine L_if hE h (fun h=>?_) (fun h=>?_)<;>cbv
   · cases h;(cbv;(try simp only [e_rnil hR]);repeat' (first | exact trivial | exact rfl | exact Or.inr trivial | apply And.intro))
   refine L_if hE h (fun h=>?_) (fun h=>?_)<;>cbv
   · cases h;(cbv;(try simp only [e_rnil hR]);repeat' (first | exact trivial | exact rfl | exact Or.inr trivial | apply And.intro))
   refine L_call hE hR h (fun _ e=>spots_Count_w e) (by subst hR;rfl) rfl fun a2 h=>?_;cbv
   cases h;(cbv;(try simp only [e_rnil hR]);repeat' (first | exact trivial | exact rfl | exact Or.inr trivial | apply And.intro))
 refine L_if hE h (fun h=>?_) (fun h=>?_)<;>cbv
 · refine L_call hE hR h (fun _ e=>works18_w e) rfl rfl fun a3 h=>?_;cbv
   exact And.left (hQ _ _ _ rfl rfl (by cases h;subst hR;rfl))
 refine L_call hE hR h (fun _ e=>spots_Of_w e) (by subst hR;rfl) rfl fun a4 h=>?_;cbv
 refine L_call hE hR h (fun _ e=>dfa_Of_w e) (by subst hR;rfl) rfl fun a5 h=>?_;cbv
 refine L_if hE h (fun h=>?_) (fun h=>?_)<;>cbv
 · refine L_call hE hR h (fun _ e=>works18_w e) rfl rfl fun a6 h=>?_;cbv
   exact And.left (hQ _ _ _ rfl rfl (by cases h;subst hR;rfl))
 refine L_if hE h (fun h=>?_) (fun h=>?_)<;>cbv
 · refine L_rgJ hE lay_ok h 3 (fun j2:Bool=>[(4,fB j2)]) (fun j2=>[]) (fun j2 h=>?_) (fun j2 h=>?_)<;>cbv
   · refine L_if hE h (fun h=>?_) (fun h=>?_)<;>cbv
     · refine L_if hE h (fun h=>?_) (fun h=>?_)<;>cbv
       · refine L_call hE hR h (fun _ e=>works18_w e) rfl rfl fun a7 h=>?_;cbv
         cases h;(cbv;(try simp only [e_rnil hR]);repeat' (first | exact trivial | exact rfl | exact Or.inr trivial | apply And.intro))
       cases h;(cbv;(try simp only [e_rnil hR]);repeat' (first | exact trivial | exact rfl | exact Or.inr trivial | apply And.intro))
     cases h;(cbv;(try simp only [e_rnil hR]);repeat' (first | exact trivial | exact rfl | exact Or.inr trivial | apply And.intro))
   exact And.left (hQ _ _ _ rfl rfl (by cases h;subst hR;rfl))
 refine L_whole hE lay_ok (by kernel_rfl) (by kernel_rfl) ?_;cbv
 refine L_pcall hE hR h (fun _ e=>dfa_Right_w e) (by subst hR;rfl) rfl fun a8 h=>?_;cbv
 refine L_if hE h (fun h=>?_) (fun h=>?_)<;>cbv
 · refine L_if hE h (fun h=>?_) (fun h=>?_)<;>cbv
   · refine L_if hE h (fun h=>?_) (fun h=>?_)<;>cbv
     · refine L_pcall hE hR h (fun _ e=>dfa_Run_w e) (by subst hR;rfl) rfl fun a9 h=>?_;cbv
       refine L_if hE h (fun h=>?_) (fun h=>?_)<;>cbv
       · refine L_if hE h (fun h=>?_) (fun h=>?_)<;>cbv
         · refine L_if hE h (fun h=>?_) (fun h=>?_)<;>cbv
           · refine L_pcall hE hR h (fun _ e=>match_Match_w e) (by subst hR;rfl) rfl fun a10 h=>?_;cbv
             refine L_if hE h (fun h=>?_) (fun h=>?_)<;>cbv
             · refine L_if hE h (fun h=>?_) (fun h=>?_)<;>cbv
               · refine L_if hE h (fun h=>?_) (fun h=>?_)<;>cbv
                 · refine L_pcall hE hR h (fun _ e=>works18_w e) rfl rfl fun a11 h=>?_;cbv
                   refine L_if hE h (fun h=>?_) (fun h=>?_)<;>cbv
                   · exact And.left (hQ _ _ _ rfl rfl (by cases h;subst hR;rfl))
                   exact nomatch h
                 refine L_if hE h (fun h=>?_) (fun h=>?_)<;>cbv
                 · exact nomatch h
                 exact And.left (hQ _ _ _ rfl rfl (by cases h;subst hR;rfl))
               exact nomatch h
             exact nomatch h
           exact nomatch h
         exact nomatch h
       exact nomatch h
     exact nomatch h
   exact nomatch h
 refine L_if hE h (fun h=>?_) (fun h=>?_)<;>cbv
 · exact nomatch h
 refine L_if hE h (fun h=>?_) (fun h=>?_)<;>cbv
 · exact nomatch h
 refine L_if hE h (fun h=>?_) (fun h=>?_)<;>cbv
 · exact nomatch h
 refine L_if hE h (fun h=>?_) (fun h=>?_)<;>cbv
 · exact nomatch h
 refine L_if hE h (fun h=>?_) (fun h=>?_)<;>cbv
 · exact nomatch h
 refine L_if hE h (fun h=>?_) (fun h=>?_)<;>cbv
 · exact nomatch h
 refine L_if hE h (fun h=>?_) (fun h=>?_)<;>cbv
 · exact nomatch h
 refine L_f hE ?_;cbv
 refine L_f hE ?_;cbv
 exact And.left (hQ _ _ _ rfl rfl (by cases h;subst hR;rfl))
end Gn
end Go.Proofs.YtjhbgkakhaonaaaGreatDoor
namespace Go.Proofs.YtjhbgkakhaonaaaGreatDoor
open Go Go.RowKit Go.ChangeShapes Go.WideShapes
theorem addr_off (b o j:Nat):(⟨b,o,none⟩:Addr).add j=⟨b,o+j,none⟩:=by simp [Addr.add]
def Fits (A:Option Addr) (n cap:Nat):Prop:=n≤cap∧(A=none→cap=0)
theorem Fits.none_:Fits none 0 0:=⟨Nat.le_refl _,fun _=>rfl⟩
section
variable {α:Type}
def RowsAt (n:Nat) (R:α→List Value→Prop) (G:Nat→Prop) (w:World) (A:Option Addr) (xs:List α):Prop:=
 0<xs.length→∃b o,A=some ⟨b,o,none⟩∧G b∧∀(k:Nat) (h:k<xs.length),∃cs,R xs[k] cs∧∀j u,cs[j]?=some u→w.cell? ⟨b,o+k*n+j,none⟩=some u
def Kept (G:Nat→Prop) (w w':World):Prop:=∀b,G b→w'.heap[b]?=w.heap[b]?
theorem Kept.cell {G:Nat→Prop} {w w':World} (h:Kept G w w') {b:Nat} (hb:G b) (o:Nat):w'.cell? ⟨b,o,none⟩=w.cell? ⟨b,o,none⟩:=World.cell?_of_block (h b hb)
theorem rows_nil {n:Nat} {R:α→List Value→Prop} {G:Nat→Prop} {w:World} {A:Option Addr}:RowsAt n R G w A ([]:List α):=fun h=>absurd h (by simp)
end
section
variable {H:Type} {enc:TypeId × Value→H} {P:Program} {W:World} {sp:Nat→Bool} {held:Bool}
theorem cell_place {a:Addr} {u:Value} (h:W.cell? a=some u):a=⟨a.block,a.off,none⟩∧a.block<W.heap.size:=by
 unfold World.cell? at h
 cases hb:W.heap[a.block]? with
 | none=>rw [hb] at h;cases h
 | some o=>
   rw [hb] at h
   refine ⟨?_,(Array.getElem?_eq_some_iff.1 hb).1⟩
   cases o with
   | cells c t fr=>
     dsimp only at h
     cases hs:a.spot with
     | none=>cases a;simp at hs;subst hs;rfl
     | some x=>rw [hs] at h;simp at h
   | _=>cases h
end
end Go.Proofs.YtjhbgkakhaonaaaGreatDoor
namespace Go.Proofs.YtjhbgkakhaonaaaGreatDoor
open Go Go.RowKit Go.ChangeShapes Go.WideShapes
open Ab
namespace Op2
def CRep (G:Nat→Prop) (w:World) (ts:List T) (cs:List Value):Prop:=cs.length=ts.length∧∀(j:Nat) t u,ts[j]?=some t→cs[j]?=some u→TRep G w t u
theorem crep_nil {G:Nat→Prop} {w:World}:CRep G w [] []:=⟨rfl,fun j t u h=>by simp at h⟩
theorem crep_cons {G:Nat→Prop} {w:World} {t:T} {u:Value} {ts:List T} {cs:List Value} (h:TRep G w t u) (hr:CRep G w ts cs):CRep G w (t::ts) (u::cs):=by
 refine ⟨by simp [hr.1],fun j a b h1 h2=>?_⟩
 cases j with
 | zero=>simp at h1 h2;subst h1;subst h2;exact h
 | succ j=>exact hr.2 j a b (by simpa using h1) (by simpa using h2)
theorem crep_app {G:Nat→Prop} {w:World}:∀{ts us:List T} {cs ds:List Value},CRep G w ts cs→CRep G w us ds→CRep G w (ts++us) (cs++ds)
 | [],us,[],ds,_,h=>h
 | [],us,c::cs,ds,h,_=>by have:=h.1;simp at this
 | t::ts,us,[],ds,h,_=>by have:=h.1;simp at this
 | t::ts,us,c::cs,ds,h,g=>crep_cons (h.2 0 t c rfl rfl) (crep_app ⟨by have:=h.1;simpa using this,fun j a b h1 h2=>h.2 (j+1) a b (by simpa using h1) (by simpa using h2)⟩ g)
theorem agg_rep {cx:Cx} {w:World} {ts:List T} {cs:Array Value} (h:CRep cx.G w ts cs.toList):VRep cx w (.agg (ts.map V.t)) (.agg cs):=by
 refine .agg _ _ (by simpa using h.1) (fun c hc=>by obtain ⟨t,-,rfl⟩:=List.mem_map.1 hc;rfl) (fun i c u h1 h2=>?_)
 rw [List.getElem?_map] at h1
 obtain ⟨t,ht,rfl⟩:=Option.map_eq_some_iff.1 h1
 exact .t _ _ (h.2 i t u ht (by simpa using h2))
theorem slc_of {α:Type} {n:Nat} {row:α→List T} {R:α→List Value→Prop} {G:Nat→Prop} {w:World} {xs:List α} {A:Option Addr} {cap:Nat} (hn:∀x∈xs,(row x).length=n) (hR:∀x cs,x∈xs→R x cs→CRep G w (row x) cs)
 (hf:Fits A xs.length cap) (h:RowsAt n R G w A xs):TRep G w (.slc (xs.map row)) (.slice A xs.length cap):=by
 by_cases hpos:0<xs.length
 · obtain ⟨b,o,rfl,hG,hk⟩:=h hpos
   have key:∀i j t,((xs.map row)[i]?).bind (fun r=>r[j]?)=some t→∃u,w.cell? ⟨b,o+(i*n+j),none⟩=some u∧TRep G w t u:=fun i j t ht=>by
    rw [List.getElem?_map] at ht
    cases hx:xs[i]? with
    | none=>rw [hx] at ht;cases ht
    | some x=>
      rw [hx] at ht
      simp only [Option.map_some,Option.bind_some] at ht
      obtain ⟨hi,rfl⟩:=List.getElem?_eq_some_iff.1 hx
      obtain ⟨cs,h1,h2⟩:=hk i hi
      obtain ⟨g1,g2⟩:=hR _ cs (List.getElem_mem hi) h1
      have hj:j<cs.length:=by have:=(List.getElem?_eq_some_iff.1 ht).1;omega
      refine ⟨cs[j],?_,g2 j t _ ht (List.getElem?_eq_getElem hj)⟩
      have:=h2 j _ (List.getElem?_eq_getElem hj)
      rwa [show o+i*n+j=o+(i*n+j) by omega] at this
   have hlen:(xs.map row).length=xs.length:=List.length_map ..
   rw [←hlen]
   refine .slc _ _ b o n cap (fun i j=>(w.cell? ⟨b,o+(i*n+j),none⟩).getD undef) (by rw [hlen];exact hf.1) (fun e=>by cases e) (fun _=>⟨rfl,hG⟩) (fun r hr=>?_) (fun i j t ht=>?_) (fun i j t ht=>?_)
   · obtain ⟨x,hx,rfl⟩:=List.mem_map.1 hr
     exact hn x hx
   · obtain ⟨u,h1,-⟩:=key i j t ht
     rw [h1]
     rfl
   · obtain ⟨u,h1,h2⟩:=key i j t ht
     rw [h1]
     exact h2
 · obtain rfl:xs=[]:=List.eq_nil_of_length_eq_zero (by omega)
   exact .slc [] A 0 0 0 cap (fun _ _=>undef) (Nat.zero_le _) hf.2 (fun h=>absurd rfl h) (fun r h=>by simp at h) (fun i j t h=>by simp at h) (fun i j t h=>by simp at h)
section
variable {H:Type} {enc:TypeId × Value→H} {P:Program} {W:World} {sp:Nat→Bool} {held:Bool} {fuel:Nat} {x:DataW H × List MemPlace}
abbrev GW (W:World):Nat→Prop:=fun b=>b<W.heap.size
theorem o_int {t:TypeId} {k:IntKind} {cs:List Value} (ht:P.underlying t=some (.int k)) (h:DataW.trod enc P W 0 sp held fuel t cs=some x):∃a:Int,CRep (GW W) W [.flat (.int k a)] cs:=by
 obtain ⟨n,rfl,-,-⟩:=DataW.trod_int ht h
 exact ⟨n,crep_cons (.flat _ rfl) crep_nil⟩
theorem fld {fs:Array Field} {n:Nat} {cs:List Value} {xs:List (DataW H × List MemPlace)} (hl:xs.length=fs.size)
 (hf:∀(i:Nat) (f:Field),fs[i]?=some f→DataW.trod enc P W 0 sp held n f.type ((cs.drop f.offset).take (P.cellsOf f.type))=xs[i]?) (i:Nat) (f:Field) (h:fs[i]?=some f):
 ∃y,DataW.trod enc P W 0 sp held n f.type ((cs.drop f.offset).take (P.cellsOf f.type))=some y:=by
 have:=hf i f h
 obtain ⟨hi,-⟩:=Array.getElem?_eq_some_iff.1 h
 rw [List.getElem?_eq_getElem (by omega)] at this
 exact ⟨_,this⟩
theorem part {G:Nat→Prop} {cs:List Value} {o s:Nat} {ts us:List T} (h:CRep G W ts ((cs.drop o).take s)) (hr:CRep G W us (cs.drop (o+s))):CRep G W (ts++us) (cs.drop o):=by
 have e:cs.drop o=(cs.drop o).take s++cs.drop (o+s):=by rw [←List.drop_drop,List.take_append_drop]
 rw [e]
 exact crep_app h hr
end
theorem vr_nil {cx:Cx} {w:World}:VReps cx w [] ⟨[]⟩:=⟨rfl,fun i c u h=>by simp at h⟩
theorem vr_cons {cx:Cx} {w:World} {a:V} {av:List V} {y:Value} {ys:List Value} (h:VRep cx w a y) (hr:VReps cx w av ⟨ys⟩):VReps cx w (a::av) ⟨y::ys⟩:=
 ⟨by have:=hr.1;simp at this ⊢;exact this,fun i c u h1 h2=>by
  cases i with
  | zero=>simp at h1 h2;subst h1;subst h2;exact h
  | succ i=>exact hr.2 i c u (by simpa using h1) (by simpa using h2)⟩
theorem v_agg {cx:Cx} {w:World} {ts:List T} {cs:Array Value} (h:CRep cx.G w ts cs.toList):VRep cx w (.agg (ts.map V.t)) (.agg cs):=agg_rep h
end Op2
end Go.Proofs.YtjhbgkakhaonaaaGreatDoor
namespace Go.Proofs.YtjhbgkakhaonaaaGreatDoor
open Go Go.RowKit Go.ChangeShapes Go.WideShapes
open Ab
namespace Op2
variable {H:Type} {enc:TypeId × Value→H} {P:Program} {W:World} {sp:Nat→Bool} {held:Bool} {fuel:Nat} {x:DataW H × List MemPlace}
theorem len1 {t e:TypeId} {cs:List Value} (ht:P.underlying t=some (.slice e)) (h:DataW.trod enc P W 0 sp held fuel t cs=some x):cs.length=1:=by
 rcases DataW.trod_slice ht h with ⟨e5,-⟩ | ⟨a,len,cap,elems,rest,n,-,e5,-⟩<;>rw [e5]<;>rfl
theorem o_u64 {t:TypeId} {cs:List Value} (ht:P.underlying t=some (.int .u64)) (h:DataW.trod enc P W 0 sp held fuel t cs=some x):∃a:BitVec 64,cs=[.int .u64 (a.toNat:Int)]:=by
 obtain ⟨n,rfl,-,h⟩:=DataW.trod_int ht h
 simp only [Lit.wf,Bool.and_eq_true,decide_eq_true_eq] at h
 have h1:(0:Int)≤n:=h.1
 have h2:n≤18446744073709551615:=h.2
 refine ⟨BitVec.ofNat 64 n.toNat,?_⟩
 rw [BitVec.toNat_ofNat,Nat.mod_eq_of_lt (by omega),Int.toNat_of_nonneg h1]
theorem o_set {t e:TypeId} {cs:List Value} (ht:P.underlying t=some (.array 4 e)) (he:P.underlying e=some (.int .u64)) (hce:P.cellsOf e=1) (hct:P.cellsOf t=4) (h:DataW.trod enc P W 0 sp held fuel t cs=some x):∃S:CSet,CRep (GW W) W (Sh.cSet S) cs:=by
 obtain ⟨ys,m,-,-,hl,hy4,hy⟩:=DataW.trod_array ht h
 rw [hct] at hl
 match cs,hl with
 | [v1,v2,v3,v4],_=>
 have y0:=hy 0 (by decide)
 have y1:=hy 1 (by decide)
 have y2:=hy 2 (by decide)
 have y3:=hy 3 (by decide)
 rw [List.getElem?_eq_getElem (by omega),hce] at y0 y1 y2 y3
 obtain ⟨a,ea⟩:=o_u64 (cs:=[v1]) he y0
 obtain ⟨b,eb⟩:=o_u64 (cs:=[v2]) he y1
 obtain ⟨c,ec⟩:=o_u64 (cs:=[v3]) he y2
 obtain ⟨d,ed⟩:=o_u64 (cs:=[v4]) he y3
 cases ea;cases eb;cases ec;cases ed
 exact ⟨⟨a,b,c,d⟩,crep_cons (.flat _ rfl) (crep_cons (.flat _ rfl) (crep_cons (.flat _ rfl) (crep_cons (.flat _ rfl) crep_nil)))⟩
end Op2
end Go.Proofs.YtjhbgkakhaonaaaGreatDoor
