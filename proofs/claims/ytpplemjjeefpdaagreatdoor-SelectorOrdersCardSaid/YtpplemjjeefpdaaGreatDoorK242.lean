/- Texts that the proof leans on. -/
import Derived.Test.YtpplemjjeefpdaaGreatDoorK241
import Derived.Test.YtpplemjjeefpdaaGreatDoorK234
set_option linter.unusedVariables false
set_option linter.unusedSimpArgs false
set_option maxRecDepth 100000
set_option maxHeartbeats 4000000
namespace Go.Proofs.YtpplemjjeefpdaaGreatDoor
open Go Go.RowKit
open Ab Sh
namespace Gn
theorem r23_Of_w {N:Nat} {p0:List GMatcher} {p1:ByteArray} {r:List GMatcher} (h:r23_Of_g N p0 p1=some r):FunS Tryz.prog 26 [.t (.slc (rw _ cMatcher p0)),fS p1] (r23_Of_s rw) r:=by
 refine fun_w lay_ok Tryz.call26 Tryz.func26 rfl ?_
 intro A W E Q R hE hR hf hQ;rcases W with ⟨ar,cm,conj,cv,sl,sc,ct,sa,ss,ll,_,_,_,_,mi,mx,_,_,_⟩
 rw [←hR]
 unfold r23_Of_g at h
 skip
 cbv
 refine L_for hE lay_ok 0 (fun g:Int ×(List GMatcher)× Nat=>[(5,.lst 0),(6,fI .i64 g.1)]) (fun g=>[(0,.list 46 3 (R _ cMatcher g.2.1))]) (fun g=>r23_Of_l1 p0 p1 g.2.2 g.1 g.2.1=some r) (fun g=>g.2.2) (_,_,N) h ?_ ?_
 · (cbv;(try simp only [e_rnil hR]);repeat' (first | exact trivial | exact rfl | exact Or.inr trivial | apply And.intro))
 rintro ⟨v1,v2,m1⟩ h Q1 hN1 hT1 hX1
 have h:r23_Of_l1 p0 p1 m1 v1 v2=some r:=h
 cases m1 with
 | zero=>exact nomatch (show (none:Option _)=some _ from h)
 | succ m1=>
 rw [r23_Of_l1] at h
 rw [q_ar hE,q_cm hE,q_sc hE,q_ll hE,←hR] at h
 cbv
 refine L_if hE h (fun h=>?_) (fun h=>?_)<;>cbv
 · refine L_row hE hR h fun r3 h=>?_;cbv
   refine L_cdJ hE lay_ok h 1 (fun j2:(List GMatcher)=>[(5,.lst 0)]) (fun j2=>[(0,.list 46 3 (R _ cMatcher j2))]) (fun j2 h=>?_) (fun j2 h=>?_)<;>cbv
   · refine L_if hE h (fun h=>?_) (fun h=>?_)<;>cbv
     · refine L_row hE hR h fun r4 h=>?_;cbv
       refine L_appL hE hR h rfl (hf _) (fun _=>rfl) (by decide) fun l5 e h=>?_;cbv at e;rw [e];clear e
       cases h;(cbv;(try simp only [e_rnil hR]);repeat' (first | exact trivial | exact rfl | exact Or.inr trivial | apply And.intro))
     cases h;(cbv;(try simp only [e_rnil hR]);repeat' (first | exact trivial | exact rfl | exact Or.inr trivial | apply And.intro))
   refine hN1 _ (_,_,m1) [] h (Nat.lt_succ_self _) trivial ?_;(cbv;(try simp only [e_rnil hR]);repeat' (first | exact trivial | exact rfl | exact Or.inr trivial | apply And.intro))
 refine hX1 _ _ ?_;cbv
 exact And.left (hQ _ _ _ rfl rfl (by cases h;subst hR;rfl))
theorem l23_SelectorOrders_w {N:Nat} {p0:List GMatcher} {p1:ByteArray} {r:Bool} (h:l23_SelectorOrders_g N p0 p1=some r):FunS Tryz.prog 5 [.t (.slc (rw _ cMatcher p0)),fS p1] (l23_SelectorOrders_s rw) r:=by
 refine fun_w lay_ok Tryz.call5 Tryz.func5 rfl ?_
 intro A W E Q R hE hR hf hQ;rcases W with ⟨ar,cm,conj,cv,sl,sc,ct,sa,ss,ll,_,_,_,_,mi,mx,_,_,_⟩
 rw [←hR]
 unfold l23_SelectorOrders_g at h
 skip
 cbv
 refine L_call hE hR h (fun _ e=>r23_Great_w e) (by subst hR;rfl) rfl fun a1 h=>?_;cbv
 refine L_if hE h (fun h=>?_) (fun h=>?_)<;>cbv
 · refine L_call hE hR h (fun _ e=>l23_worksW_w e) rfl rfl fun a2 h=>?_;cbv
   exact And.left (hQ _ _ _ rfl rfl (by cases h;subst hR;rfl))
 refine L_rgJ hE lay_ok h 0 (fun j1:Bool=>[(4,fB j1)]) (fun j1=>[]) (fun j1 h=>?_) (fun j1 h=>?_)<;>cbv
 · refine L_list hE hR h (fun _ e=>selector_Order_w e) (by subst hR;rfl) rfl fun l3 h=>?_;cbv
   refine L_call hE hR h (fun _ e=>r23_Order_w e) (by subst hR;rfl) rfl fun a4 h=>?_;cbv
   refine L_bare hE hR h (fun _ e=>porterbase_SameSel_w e) rfl (by subst hR;rfl) (fun _=>rfl) fun a5 h=>?_;cbv
   refine L_if hE h (fun h=>?_) (fun h=>?_)<;>cbv
   · refine L_list hE hR h (fun _ e=>selector_NamesW_w e) (by subst hR;rfl) rfl fun l6 h=>?_;cbv
     refine L_call hE hR h (fun _ e=>r23_Names_w e) (by subst hR;rfl) rfl fun a7 h=>?_;cbv
     refine L_bare hE hR h (fun _ e=>porterbase_SameTexts_w e) rfl (by subst hR;rfl) (fun _=>rfl) fun a8 h=>?_;cbv
     refine L_if hE h (fun h=>?_) (fun h=>?_)<;>cbv
     · refine L_list hE hR h (fun _ e=>selector_Of_w e) (by subst hR;rfl) rfl fun l9 h=>?_;cbv
       refine L_call hE hR h (fun _ e=>r23_Of_w e) (by subst hR;rfl) rfl fun a10 h=>?_;cbv
       refine L_bare hE hR h (fun _ e=>porterbase_SameSel_w e) rfl (by subst hR;rfl) (fun _=>rfl) fun a11 h=>?_;cbv
       refine L_if hE h (fun h=>?_) (fun h=>?_)<;>cbv
       · refine L_call hE hR h (fun _ e=>l23_worksW_w e) rfl rfl fun a12 h=>?_;cbv
         cases h;(cbv;(try simp only [e_rnil hR]);repeat' (first | exact trivial | exact rfl | exact Or.inr trivial | apply And.intro))
       cases h;(cbv;(try simp only [e_rnil hR]);repeat' (first | exact trivial | exact rfl | exact Or.inr trivial | apply And.intro))
     cases h;(cbv;(try simp only [e_rnil hR]);repeat' (first | exact trivial | exact rfl | exact Or.inr trivial | apply And.intro))
   cases h;(cbv;(try simp only [e_rnil hR]);repeat' (first | exact trivial | exact rfl | exact Or.inr trivial | apply And.intro))
 exact And.left (hQ _ _ _ rfl rfl (by cases h;subst hR;rfl))
end Gn
end Go.Proofs.YtpplemjjeefpdaaGreatDoor
