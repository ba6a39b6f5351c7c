/- Texts that the proof leans on. -/
import Derived.Test.YtpplemjjeefpdaaGreatDoorK233
import Derived.Test.YtpplemjjeefpdaaGreatDoorK232
import Derived.ChangeArms
import Derived.OpenShut
import Derived.DataReads
import Derived.WideShapes
import Derived.Deep.Slices
import Derived.Laws.OwnMore
import Derived.Laws.AppendOwn
import Derived.ProofKit
import Derived.ShutString
import Derived.Carry
import Derived.LaidMore
import Derived.Deep.DeepHandedRow
set_option linter.unusedVariables false
set_option linter.unusedSimpArgs false
set_option maxRecDepth 100000
set_option maxHeartbeats 4000000
namespace Go.Proofs.YtpplemjjeefpdaaGreatDoor
open Go Go.RowKit
open Ab Sh
namespace Gn
theorem matcher_like_ask_w {N:Nat} {p0:Gmatcher_like} {p1:ByteArray} {r:Bool} (h:matcher_like_ask_g N p0 p1=some r):FunS Tryz.prog 214 [.agg [fI .i64 p0.node.kind,fI .u64 (p0.node.set.a.toNat:Int),fI .u64 (p0.node.set.b.toNat:Int),fI .u64 (p0.node.set.c.toNat:Int),fI .u64 (p0.node.set.d.toNat:Int),.t (.slc (rw _ nodeRow p0.node.kids)),fI .i64 p0.node.min,fI .i64 p0.node.max],fS p1] (matcher_like_ask_s rw) r:=by
 refine fun_w lay_ok Tryz.call214 Tryz.func214 rfl ?_
 intro A W E Q R hE hR hf hQ;rcases W with ⟨ar,cm,conj,cv,sl,sc,ct,sa,ss,ll,_,_,_,_,mi,mx,_,_,_⟩
 rw [←hR]
 unfold matcher_like_ask_g at h
 skip
 cbv
 refine L_call hE hR h (fun _ e=>match_Match_w e) (by subst hR;rfl) rfl fun a1 h=>?_;cbv
 exact And.left (hQ _ _ _ rfl rfl (by cases h;subst hR;rfl))
theorem matcher_Test_w {N:Nat} {p0:GMatcher} {p1:ByteArray} {r:Bool} (h:matcher_Test_g N p0 p1=some r):FunS Tryz.prog 73 [.agg [fS p0.Name,fI .i64 p0.Op,fS p0.Value],fS p1] (matcher_Test_s rw) r:=by
 refine fun_w lay_ok Tryz.call73 Tryz.func73 rfl ?_
 intro A W E Q R hE hR hf hQ;rcases W with ⟨ar,cm,conj,cv,sl,sc,ct,sa,ss,ll,_,_,_,_,mi,mx,_,_,_⟩
 unfold matcher_Test_g at h
 rw [q_cm hE,q_conj hE,q_sl hE] at h
 cbv
 refine L_keep hE lay_ok Tryz.call70 Tryz.func70 rfl ?_
 intro A1 E1 Q1 hE1 hf1 hQ1;cbv
 refine L_call hE1 hR h (fun _ e=>name_Label_w e) rfl rfl fun a1 h=>?_;cbv
 refine L_if hE1 h (fun h=>?_) (fun h=>?_)<;>cbv
 · refine And.left (hQ1 _ _ rfl ?_);cbv
   refine L_if hE h (fun h=>?_) (fun h=>?_)<;>cbv
   · exact And.left (hQ _ _ _ rfl rfl (by cases h;subst hR;rfl))
   exact nomatch h
 refine L_rgJ hE1 lay_ok h 2 (fun j1:Bool=>[(13,fB j1)]) (fun j1=>[]) (fun j1 h=>?_) (fun j1 h=>?_)<;>cbv
 · refine L_if hE1 h (fun h=>?_) (fun h=>?_)<;>cbv
   · cases h;(cbv;(try simp only [e_rnil hR]);repeat' (first | exact trivial | exact rfl | exact Or.inr trivial | apply And.intro))
   cases h;(cbv;(try simp only [e_rnil hR]);repeat' (first | exact trivial | exact rfl | exact Or.inr trivial | apply And.intro))
 refine L_if hE1 h (fun h=>?_) (fun h=>?_)<;>cbv
 · refine And.left (hQ1 _ _ rfl ?_);cbv
   refine L_if hE h (fun h=>?_) (fun h=>?_)<;>cbv
   · exact And.left (hQ _ _ _ rfl rfl (by cases h;subst hR;rfl))
   exact nomatch h
 refine L_rgJ hE1 lay_ok h 2 (fun j2:Bool=>[(5,fB j2)]) (fun j2=>[]) (fun j2 h=>?_) (fun j2 h=>?_)<;>cbv
 · refine L_if hE1 h (fun h=>?_) (fun h=>?_)<;>cbv
   · cases h;(cbv;(try simp only [e_rnil hR]);repeat' (first | exact trivial | exact rfl | exact Or.inr trivial | apply And.intro))
   cases h;(cbv;(try simp only [e_rnil hR]);repeat' (first | exact trivial | exact rfl | exact Or.inr trivial | apply And.intro))
 refine L_rgJ hE1 lay_ok h 2 (fun j3:Bool=>[(37,fB j3)]) (fun j3=>[]) (fun j3 h=>?_) (fun j3 h=>?_)<;>cbv
 · refine L_if hE1 h (fun h=>?_) (fun h=>?_)<;>cbv
   · cases h;(cbv;(try simp only [e_rnil hR]);repeat' (first | exact trivial | exact rfl | exact Or.inr trivial | apply And.intro))
   cases h;(cbv;(try simp only [e_rnil hR]);repeat' (first | exact trivial | exact rfl | exact Or.inr trivial | apply And.intro))
 refine L_if hE1 h (fun h=>?_) (fun h=>?_)<;>cbv
 · refine L_if hE1 h (fun h=>?_) (fun h=>?_)<;>cbv
   · refine And.left (hQ1 _ _ rfl ?_);cbv
     refine L_if hE h (fun h=>?_) (fun h=>?_)<;>cbv
     · exact And.left (hQ _ _ _ rfl rfl (by cases h;subst hR;rfl))
     exact nomatch h
   refine r_ifc hE1 Tryz.underlying126 rfl ?_;cbv
   refine And.left (hQ1 _ _ rfl ?_);cbv
   refine L_if hE h (fun h=>?_) (fun h=>?_)<;>cbv
   · exact nomatch h
   refine r_as_yes hE (by kernel_rfl) ?_;cbv
   refine L_rg hE lay_ok ?_;cbv
   refine L_t hE ?_;cbv
   refine r_inv (f:=213) hE (fun w u c=>by kernel_rfl) ?_
   refine L_call hE hR h (fun _ e=>matcher_same_ask_w e) rfl rfl fun a2 h=>?_;cbv
   exact And.left (hQ _ _ _ rfl rfl (by cases h;subst hR;rfl))
 refine L_call hE1 hR h (fun _ e=>regex_Parse_w e) rfl rfl fun a3 h=>?_;cbv
 refine L_if hE1 h (fun h=>?_) (fun h=>?_)<;>cbv
 · refine L_whole hE1 lay_ok (by kernel_rfl) (by kernel_rfl) ?_;cbv
   refine And.left (hQ1 _ _ rfl ?_);cbv
   refine L_if hE h (fun h=>?_) (fun h=>?_)<;>cbv
   · exact And.left (hQ _ _ _ rfl rfl (by cases h;subst hR;rfl))
   exact nomatch h
 refine r_ifc hE1 Tryz.underlying128 rfl ?_;cbv
 refine And.left (hQ1 _ _ rfl ?_);cbv
 refine L_if hE h (fun h=>?_) (fun h=>?_)<;>cbv
 · exact nomatch h
 refine r_as_yes hE (by kernel_rfl) ?_;cbv
 refine L_rg hE lay_ok ?_;cbv
 refine L_t hE ?_;cbv
 refine r_inv (f:=214) hE (fun w u c=>by kernel_rfl) ?_
 refine L_call hE hR h (fun _ e=>matcher_like_ask_w e) (by subst hR;rfl) rfl fun a4 h=>?_;cbv
 exact And.left (hQ _ _ _ rfl rfl (by cases h;subst hR;rfl))
theorem labels_Get_w {N:Nat} {p0:List GLabel} {p1:ByteArray} {r:ByteArray} (h:labels_Get_g N p0 p1=some r):FunS Tryz.prog 74 [.t (.slc (rw _ cLabel p0)),fS p1] (labels_Get_s rw) r:=by
 refine fun_w lay_ok Tryz.call74 Tryz.func74 rfl ?_
 intro A W E Q R hE hR hf hQ;rcases W with ⟨ar,cm,conj,cv,sl,sc,ct,sa,ss,ll,_,_,_,_,mi,mx,_,_,_⟩
 rw [←hR]
 unfold labels_Get_g at h
 skip
 cbv
 refine L_keep hE lay_ok Tryz.call103 Tryz.func103 rfl ?_
 intro A1 E1 Q1 hE1 hf1 hQ1;cbv
 refine L_for hE1 lay_ok 1 (fun g:Int × Nat=>[(4,fI .i64 0),(8,fI .i64 g.1)]) (fun g=>[]) (fun g=>labels_Get_l2 p0 p1 g.2 g.1=some r) (fun g=>g.2) (_,N) h ?_ ?_
 · (cbv;(try simp only [e_rnil hR]);repeat' (first | exact trivial | exact rfl | exact Or.inr trivial | apply And.intro))
 rintro ⟨v1,m2⟩ h Q2 hN2 hT2 hX2
 have h:labels_Get_l2 p0 p1 m2 v1=some r:=h
 cases m2 with
 | zero=>exact nomatch (show (none:Option _)=some _ from h)
 | succ m2=>
 rw [labels_Get_l2] at h
 rw [q_ar hE,q_cm hE,q_sc hE,q_ll hE,←hR] at h
 cbv
 refine L_if hE1 h (fun h=>?_) (fun h=>?_)<;>cbv
 · refine L_row hE1 hR h fun r2 h=>?_;cbv
   refine L_keep hE1 lay_ok Tryz.call104 Tryz.func104 rfl ?_
   intro A3 E3 Q3 hE3 hf3 hQ3;cbv
   refine And.left (hQ3 _ _ rfl ?_);cbv
   refine L_if hE1 h (fun h=>?_) (fun h=>?_)<;>cbv
   · refine hT2 _ ?_
     refine And.left (hQ1 _ _ rfl ?_);cbv
     refine L_if hE h (fun h=>?_) (fun h=>?_)<;>cbv
     · exact And.left (hQ _ _ _ rfl rfl (by cases h;subst hR;rfl))
     refine L_row hE hR h fun r3 h=>?_;cbv
     exact And.left (hQ _ _ _ rfl rfl (by cases h;subst hR;rfl))
   refine hN2 _ (_,m2) [] h (Nat.lt_succ_self _) trivial ?_;(cbv;(try simp only [e_rnil hR]);repeat' (first | exact trivial | exact rfl | exact Or.inr trivial | apply And.intro))
 refine hX2 _ _ ?_;cbv
 refine And.left (hQ1 _ _ rfl ?_);cbv
 refine L_if hE h (fun h=>?_) (fun h=>?_)<;>cbv
 · exact And.left (hQ _ _ _ rfl rfl (by cases h;subst hR;rfl))
 exact nomatch h
theorem matcher_Holds_w {N:Nat} {p0:GMatcher} {p1:List GLabel} {r:Bool} (h:matcher_Holds_g N p0 p1=some r):FunS Tryz.prog 42 [.agg [fS p0.Name,fI .i64 p0.Op,fS p0.Value],.t (.slc (rw _ cLabel p1))] (matcher_Holds_s rw) r:=by
 refine fun_w lay_ok Tryz.call42 Tryz.func42 rfl ?_
 intro A W E Q R hE hR hf hQ;rcases W with ⟨ar,cm,conj,cv,sl,sc,ct,sa,ss,ll,_,_,_,_,mi,mx,_,_,_⟩
 rw [←hR]
 unfold matcher_Holds_g at h
 skip
 cbv
 refine L_whole hE lay_ok (by kernel_rfl) (by kernel_rfl) ?_;cbv
 refine L_pcall hE hR h (fun _ e=>labels_Get_w e) (by subst hR;rfl) rfl fun a1 h=>?_;cbv
 refine L_pcall hE hR h (fun _ e=>matcher_Test_w e) rfl rfl fun a2 h=>?_;cbv
 exact And.left (hQ _ _ _ rfl rfl (by cases h;subst hR;rfl))
theorem selector_Holds_w {N:Nat} {p0:List GMatcher} {p1:List GLabel} {r:Bool} (h:selector_Holds_g N p0 p1=some r):FunS Tryz.prog 18 [.t (.slc (rw _ cMatcher p0)),.t (.slc (rw _ cLabel p1))] (selector_Holds_s rw) r:=by
 refine fun_w lay_ok Tryz.call18 Tryz.func18 rfl ?_
 intro A W E Q R hE hR hf hQ;rcases W with ⟨ar,cm,conj,cv,sl,sc,ct,sa,ss,ll,_,_,_,_,mi,mx,_,_,_⟩
 rw [←hR]
 unfold selector_Holds_g at h
 skip
 cbv
 refine L_keep hE lay_ok Tryz.call40 Tryz.func40 rfl ?_
 intro A1 E1 Q1 hE1 hf1 hQ1;cbv
 refine L_keep hE1 lay_ok Tryz.call72 Tryz.func72 rfl ?_
 intro A2 E2 Q2 hE2 hf2 hQ2;cbv
 refine L_for hE2 lay_ok 1 (fun g:Int × Nat=>[(4,fI .i64 0),(8,fI .i64 g.1)]) (fun g=>[]) (fun g=>selector_Holds_l3 N p0 p1 g.2 g.1=some r) (fun g=>g.2) (_,N) h ?_ ?_
 · (cbv;(try simp only [e_rnil hR]);repeat' (first | exact trivial | exact rfl | exact Or.inr trivial | apply And.intro))
 rintro ⟨v1,m3⟩ h Q3 hN3 hT3 hX3
 have h:selector_Holds_l3 N p0 p1 m3 v1=some r:=h
 cases m3 with
 | zero=>exact nomatch (show (none:Option _)=some _ from h)
 | succ m3=>
 rw [selector_Holds_l3] at h
 rw [q_ar hE,q_cm hE,q_ll hE,←hR] at h
 cbv
 refine L_if hE2 h (fun h=>?_) (fun h=>?_)<;>cbv
 · refine L_row hE2 hR h fun r2 h=>?_;cbv
   refine L_keep hE2 lay_ok Tryz.call41 Tryz.func41 rfl ?_
   intro A4 E4 Q4 hE4 hf4 hQ4;cbv
   refine L_call hE4 hR h (fun _ e=>matcher_Holds_w e) (by subst hR;rfl) rfl fun a3 h=>?_;cbv
   refine And.left (hQ4 _ _ rfl ?_);cbv
   refine L_if hE2 h (fun h=>?_) (fun h=>?_)<;>cbv
   · refine hT3 _ ?_
     refine And.left (hQ2 _ _ rfl ?_);cbv
     refine And.left (hQ1 _ _ rfl ?_);cbv
     exact And.left (hQ _ _ _ rfl rfl (by cases h;subst hR;rfl))
   refine hN3 _ (_,m3) [] h (Nat.lt_succ_self _) trivial ?_;(cbv;(try simp only [e_rnil hR]);repeat' (first | exact trivial | exact rfl | exact Or.inr trivial | apply And.intro))
 refine hX3 _ _ ?_;cbv
 refine And.left (hQ2 _ _ rfl ?_);cbv
 refine And.left (hQ1 _ _ rfl ?_);cbv
 exact And.left (hQ _ _ _ rfl rfl (by cases h;subst hR;rfl))
end Gn
end Go.Proofs.YtpplemjjeefpdaaGreatDoor
namespace Go.Proofs.YtpplemjjeefpdaaGreatDoor
open Go Go.RowKit
open Ab Sh
namespace Gn
theorem selector_NamesW_w {N:Nat} {p0:List GMatcher} {r:List ByteArray} (h:selector_NamesW_g N p0=some r):FunL Tryz.prog 23 [.t (.slc (rw _ cMatcher p0))] 9 1 (rw _ cS r):=by
 refine list_w lay_ok Tryz.call23 Tryz.func23 rfl ?_
 intro A W E Q R hE hR hf hQ;rcases W with ⟨ar,cm,conj,cv,sl,sc,ct,sa,ss,ll,_,_,_,_,mi,mx,_,_,_⟩
 rw [←hR]
 unfold selector_NamesW_g at h
 skip
 cbv
 refine L_for hE lay_ok 0 (fun g:Int ×(List ByteArray)× Nat=>[(3,.lst 0),(8,fI .i64 g.1)]) (fun g=>[(0,.list 9 1 (R _ cS g.2.1))]) (fun g=>selector_NamesW_l1 N p0 g.2.2 g.1 g.2.1=some r) (fun g=>g.2.2) (_,_,N) h ?_ ?_
 · (cbv;(try simp only [e_rnil hR]);repeat' (first | exact trivial | exact rfl | exact Or.inr trivial | apply And.intro))
 rintro ⟨v1,v2,m1⟩ h Q1 hN1 hT1 hX1
 have h:selector_NamesW_l1 N p0 m1 v1 v2=some r:=h
 cases m1 with
 | zero=>exact nomatch (show (none:Option _)=some _ from h)
 | succ m1=>
 rw [selector_NamesW_l1] at h
 rw [q_ar hE,q_cm hE,q_ll hE,←hR] at h
 cbv
 refine L_if hE h (fun h=>?_) (fun h=>?_)<;>cbv
 · refine L_row hE hR h fun r3 h=>?_;cbv
   refine L_appL hE hR h rfl (hf _) (fun _=>rfl) (by decide) fun l4 e h=>?_;cbv at e;rw [e];clear e
   refine hN1 _ (_,_,m1) [] h (Nat.lt_succ_self _) trivial ?_;(cbv;(try simp only [e_rnil hR]);repeat' (first | exact trivial | exact rfl | exact Or.inr trivial | apply And.intro))
 refine hX1 _ _ ?_;cbv
 refine sortN_L hE hR h rfl fun l5 h=>?_;cbv
 refine L_body hE lay_ok Tryz.call50 Tryz.func50 rfl ?_
 intro A2 E2 Q2 hE2 hf2 hQ2;cbv
 refine L_if hE2 h (fun h=>?_) (fun h=>?_)<;>cbv
 · refine And.left (hQ2 _ _ rfl ?_);cbv
   exact And.left (hQ _ _ rfl (.inl ⟨_,rfl,by cases h;subst hR;rfl⟩))
 refine L_for hE2 lay_ok 1 (fun g:Int × Nat=>[(0,.lst 0),(2,vNil),(3,fI .i64 g.1),(6,.lst 0)]) (fun g=>[]) (fun g=>selector_NamesW_l3 N l5 g.2 g.1=some r) (fun g=>g.2) (_,N) h ?_ ?_
 · (cbv;(try simp only [e_rnil hR]);repeat' (first | exact trivial | exact rfl | exact Or.inr trivial | apply And.intro))
 rintro ⟨v6,m3⟩ h Q3 hN3 hT3 hX3
 have h:selector_NamesW_l3 N l5 m3 v6=some r:=h
 cases m3 with
 | zero=>exact nomatch (show (none:Option _)=some _ from h)
 | succ m3=>
 rw [selector_NamesW_l3] at h
 rw [q_ar hE,q_cm hE,q_sc hE,q_ll hE,←hR] at h
 cbv
 refine L_if hE2 h (fun h=>?_) (fun h=>?_)<;>cbv
 · refine L_whole hE2 lay_ok (by kernel_rfl) (by kernel_rfl) ?_;cbv
   refine L_row hE2 hR h fun r7 h=>?_;cbv
   refine L_row hE2 hR h fun r8 h=>?_;cbv
   refine L_row hE2 hR h fun r9 h=>?_;cbv
   refine L_row hE2 hR h fun r10 h=>?_;cbv
   refine L_if hE2 h (fun h=>?_) (fun h=>?_)<;>cbv
   · refine L_wsin hE2 hR h (fun _=>rfl) fun h=>?_;cbv
     refine L_for hE2 lay_ok 11 (fun g:Int × Int ×(List ByteArray)× Nat=>[(0,.lst 0),(3,fI .i64 g.1),(4,.win 0 v6),(5,fI .i64 g.2.1),(6,.lst 0),(11,.lst 0),(16,.lst 0),(18,.elt 0 v6 0),(20,.lst 0),(23,.elt 0 (ar .sub .i64 v6 1) 0),(26,.lst 0),(28,.win 0 v6)]) (fun g=>[(0,.list 9 1 (R _ cS g.2.2.1))]) (fun g=>selector_NamesW_l4 v6 g.2.2.2 g.1 g.2.1 g.2.2.1=some r) (fun g=>g.2.2.2) (_,_,_,N) h ?_ ?_
     · (cbv;(try simp only [e_rnil hR]);repeat' (first | exact trivial | exact rfl | exact Or.inr trivial | apply And.intro))
     rintro ⟨v11,v12,v13,m4⟩ h Q4 hN4 hT4 hX4
     have h:selector_NamesW_l4 v6 m4 v11 v12 v13=some r:=h
     cases m4 with
     | zero=>exact nomatch (show (none:Option _)=some _ from h)
     | succ m4=>
     rw [selector_NamesW_l4] at h
     rw [q_ar hE,q_cm hE,q_sc hE,q_ll hE,←hR] at h
     cbv
     refine L_wsin hE2 hR h (fun _=>rfl) fun h=>?_;cbv
     refine L_if hE2 h (fun h=>?_) (fun h=>?_)<;>cbv
     · refine L_whole hE2 lay_ok (by kernel_rfl) (by kernel_rfl) ?_;cbv
       refine L_wrow hE2 hR h fun h=>?_;cbv
       refine L_row hE2 hR h fun r14 h=>?_;cbv
       refine L_wrow hE2 hR h fun h=>?_;cbv
       refine L_row hE2 hR h fun r15 h=>?_;cbv
       refine L_cdJ hE2 lay_ok h 21 (fun j2:Int ×(List ByteArray)=>[(3,fI .i64 j2.1)]) (fun j2=>[(0,.list 9 1 (R _ cS j2.2))]) (fun j2 h=>?_) (fun j2 h=>?_)<;>cbv
       · refine L_if hE2 h (fun h=>?_) (fun h=>?_)<;>cbv
         · refine L_wrow hE2 hR h fun h=>?_;cbv
           refine L_row hE2 hR h fun r16 h=>?_;cbv
           refine L_row hE2 hR h fun r17 h=>?_;cbv
           refine L_row hE2 hR h fun r18 h=>?_;cbv
           refine L_put hE2 hR h fun l19 e h=>?_;cbv at e;rw [e];clear e
           cases h;(cbv;(try simp only [e_rnil hR]);repeat' (first | exact trivial | exact rfl | exact Or.inr trivial | apply And.intro))
         cases h;(cbv;(try simp only [e_rnil hR]);repeat' (first | exact trivial | exact rfl | exact Or.inr trivial | apply And.intro))
       refine hN4 _ (_,_,_,m4) [] h (Nat.lt_succ_self _) trivial ?_;(cbv;(try simp only [e_rnil hR]);repeat' (first | exact trivial | exact rfl | exact Or.inr trivial | apply And.intro))
     refine hX4 _ _ ?_;cbv
     refine L_wsin hE2 hR h (fun _=>rfl) fun h=>?_;cbv
     refine L_clr hE2 hR h (fun _=>rfl) fun l20 e h=>?_;cbv at e;rw [e];clear e
     refine L_cut hE2 hR h (hf2 _ (.inr ⟨hf _,_,_,_,rfl⟩)) (fun _=>rfl) fun l21 e h=>?_;cbv at e;rw [e];clear e
     refine hT3 _ ?_
     refine And.left (hQ2 _ _ rfl ?_);cbv
     exact And.left (hQ _ _ rfl (.inl ⟨_,rfl,by cases h;subst hR;rfl⟩))
   refine hN3 _ (_,m3) [] h (Nat.lt_succ_self _) trivial ?_;(cbv;(try simp only [e_rnil hR]);repeat' (first | exact trivial | exact rfl | exact Or.inr trivial | apply And.intro))
 refine hX3 _ _ ?_;cbv
 refine And.left (hQ2 _ _ rfl ?_);cbv
 exact And.left (hQ _ _ rfl (.inl ⟨_,rfl,by cases h;subst hR;rfl⟩))
theorem l23_worksW_w {N:Nat} {r:Bool} (h:l23_worksW_g N=some r):FunS Tryz.prog 8 [] (l23_worksW_s rw) r:=by
 refine fun_w lay_ok Tryz.call8 Tryz.func8 rfl ?_
 intro A W E Q R hE hR hf hQ;rcases W with ⟨ar,cm,conj,cv,sl,sc,ct,sa,ss,ll,_,_,_,_,mi,mx,_,_,_⟩
 unfold l23_worksW_g at h
 rw [q_cm hE,q_conj hE,q_sc hE,q_ll hE,←hR] at h
 cbv
 refine L_call hE hR h (fun _ e=>selector_Parse_w e) rfl rfl fun a1 h=>?_;cbv
 refine L_rgJ hE lay_ok h 2 (fun j1:Bool=>[(0,fB j1)]) (fun j1=>[]) (fun j1 h=>?_) (fun j1 h=>?_)<;>cbv
 · refine L_bare hE hR h (fun _ e=>selector_Text_w e) rfl (by subst hR;rfl) (fun _=>rfl) fun a2 h=>?_;cbv
   refine L_if hE h (fun h=>?_) (fun h=>?_)<;>cbv
   · refine L_bare hE hR h (fun _ e=>porterbase_SameSel_w e) rfl (by subst hR;rfl) (fun _=>rfl) fun a3 h=>?_;cbv
     refine L_if hE h (fun h=>?_) (fun h=>?_)<;>cbv
     · refine L_if hE h (fun h=>?_) (fun h=>?_)<;>cbv
       · refine L_bare hE hR h (fun _ e=>selector_Holds_w e) rfl (by subst hR;rfl) (fun _=>rfl) fun a4 h=>?_;cbv
         refine L_if hE h (fun h=>?_) (fun h=>?_)<;>cbv
         · refine L_bare hE hR h (fun _ e=>selector_Holds_w e) rfl (by subst hR;rfl) (fun _=>rfl) fun a5 h=>?_;cbv
           refine L_if hE h (fun h=>?_) (fun h=>?_)<;>cbv
           · refine L_call hE hR h (fun _ e=>selector_Holds_w e) (by subst hR;rfl) rfl fun a6 h=>?_;cbv
             refine L_if hE h (fun h=>?_) (fun h=>?_)<;>cbv
             · refine L_listB hE hR h (fun _ e=>selector_NamesW_w e) rfl (by subst hR;rfl) flat_S fun l7 h=>?_;cbv
               cases h;(cbv;(try simp only [e_rnil hR]);repeat' (first | exact trivial | exact rfl | exact Or.inr trivial | apply And.intro))
             cases h;(cbv;(try simp only [e_rnil hR]);repeat' (first | exact trivial | exact rfl | exact Or.inr trivial | apply And.intro))
           cases h;(cbv;(try simp only [e_rnil hR]);repeat' (first | exact trivial | exact rfl | exact Or.inr trivial | apply And.intro))
         cases h;(cbv;(try simp only [e_rnil hR]);repeat' (first | exact trivial | exact rfl | exact Or.inr trivial | apply And.intro))
       cases h;(cbv;(try simp only [e_rnil hR]);repeat' (first | exact trivial | exact rfl | exact Or.inr trivial | apply And.intro))
     cases h;(cbv;(try simp only [e_rnil hR]);repeat' (first | exact trivial | exact rfl | exact Or.inr trivial | apply And.intro))
   cases h;(cbv;(try simp only [e_rnil hR]);repeat' (first | exact trivial | exact rfl | exact Or.inr trivial | apply And.intro))
 exact And.left (hQ _ _ _ rfl rfl (by cases h;subst hR;rfl))
theorem slices_Clone_M_w {p0:List GMatcher} {r:List GMatcher} (h:slices_Clone_M_g p0=some r):FunL Tryz.prog 44 [.t (.slc (rw _ cMatcher p0))] 46 3 (rw _ cMatcher r):=by
 refine list_w lay_ok Tryz.call44 Tryz.func44 rfl ?_
 intro A W E Q R hE hR hf hQ;rcases W with ⟨ar,cm,conj,cv,sl,sc,ct,sa,ss,ll,_,_,_,_,mi,mx,_,_,_⟩
 rw [←hR]
 unfold slices_Clone_M_g at h
 skip
 cbv
 refine L_nilq hE hR h (fun e=>by subst e;rfl) (fun h=>?_) (fun h=>?_)<;>cbv
 · refine L_t hE ?_;cbv
   exact And.left (hQ _ _ rfl (.inr ⟨rfl,by cases h;rfl⟩))
 refine L_f hE ?_;cbv
 refine L_lit hR (e:=cMatcher) h rfl fun l1 e h=>?_;cbv at e;rw [e];clear e
 refine L_app hE hR h (hf _) (fun _=>rfl) (by decide) fun l2 e h=>?_;cbv at e;rw [e];clear e
 exact And.left (hQ _ _ rfl (.inl ⟨_,rfl,by cases h;subst hR;rfl⟩))
end Gn
end Go.Proofs.YtpplemjjeefpdaaGreatDoor
namespace Go.Proofs.YtpplemjjeefpdaaGreatDoor
open Go Go.RowKit
open Ab Sh
namespace Gn
theorem selector_Order_w {N:Nat} {p0:List GMatcher} {r:List GMatcher} (h:selector_Order_g N p0=some r):FunL Tryz.prog 20 [.t (.slc (rw _ cMatcher p0))] 46 3 (rw _ cMatcher r):=by
 refine list_w lay_ok Tryz.call20 Tryz.func20 rfl ?_
 intro A W E Q R hE hR hf hQ;rcases W with ⟨ar,cm,conj,cv,sl,sc,ct,sa,ss,ll,_,_,_,_,mi,mx,_,_,_⟩
 rw [←hR]
 unfold selector_Order_g at h
 rw [q_cm hE,q_ll hE,←hR] at h
 cbv
 refine L_list hE hR h (fun _ e=>slices_Clone_M_w e) (by subst hR;rfl) rfl fun l1 h=>?_;cbv
 refine sortM_L hE hR h rfl fun l2 h=>?_;cbv
 refine L_body hE lay_ok Tryz.call47 Tryz.func47 rfl ?_
 intro A1 E1 Q1 hE1 hf1 hQ1;cbv
 refine L_if hE1 h (fun h=>?_) (fun h=>?_)<;>cbv
 · refine And.left (hQ1 _ _ rfl ?_);cbv
   exact And.left (hQ _ _ rfl (.inl ⟨_,rfl,by cases h;subst hR;rfl⟩))
 refine L_for hE1 lay_ok 1 (fun g:Int × Nat=>[(0,.lst 0),(2,vNil),(3,fI .i64 g.1),(6,.lst 0)]) (fun g=>[]) (fun g=>selector_Order_l2 N l2 g.2 g.1=some r) (fun g=>g.2) (_,N) h ?_ ?_
 · (cbv;(try simp only [e_rnil hR]);repeat' (first | exact trivial | exact rfl | exact Or.inr trivial | apply And.intro))
 rintro ⟨v3,m2⟩ h Q2 hN2 hT2 hX2
 have h:selector_Order_l2 N l2 m2 v3=some r:=h
 cases m2 with
 | zero=>exact nomatch (show (none:Option _)=some _ from h)
 | succ m2=>
 rw [selector_Order_l2] at h
 rw [q_ar hE,q_cm hE,q_conj hE,q_sc hE,q_ll hE,←hR] at h
 cbv
 refine L_if hE1 h (fun h=>?_) (fun h=>?_)<;>cbv
 · refine L_whole hE1 lay_ok (by kernel_rfl) (by kernel_rfl) ?_;cbv
   refine L_row hE1 hR h fun r4 h=>?_;cbv
   refine L_row hE1 hR h fun r5 h=>?_;cbv
   refine L_row hE1 hR h fun r6 h=>?_;cbv
   refine L_row hE1 hR h fun r7 h=>?_;cbv
   refine L_if hE1 h (fun h=>?_) (fun h=>?_)<;>cbv
   · refine L_wsin hE1 hR h (fun _=>rfl) fun h=>?_;cbv
     refine L_for hE1 lay_ok 11 (fun g:Int × Int ×(List GMatcher)× Nat=>[(0,.lst 0),(3,fI .i64 g.1),(4,.win 0 v3),(5,fI .i64 g.2.1),(6,.lst 0),(11,.lst 0),(16,.lst 0),(18,.elt 0 v3 0),(20,.lst 0),(23,.elt 0 (ar .sub .i64 v3 1) 0),(26,.lst 0),(28,.win 0 v3)]) (fun g=>[(0,.list 46 3 (R _ cMatcher g.2.2.1))]) (fun g=>selector_Order_l3 v3 g.2.2.2 g.1 g.2.1 g.2.2.1=some r) (fun g=>g.2.2.2) (_,_,_,N) h ?_ ?_
     · (cbv;(try simp only [e_rnil hR]);repeat' (first | exact trivial | exact rfl | exact Or.inr trivial | apply And.intro))
     rintro ⟨v8,v9,v10,m3⟩ h Q3 hN3 hT3 hX3
     have h:selector_Order_l3 v3 m3 v8 v9 v10=some r:=h
     cases m3 with
     | zero=>exact nomatch (show (none:Option _)=some _ from h)
     | succ m3=>
     rw [selector_Order_l3] at h
     rw [q_ar hE,q_cm hE,q_conj hE,q_sc hE,q_ll hE,←hR] at h
     cbv
     refine L_wsin hE1 hR h (fun _=>rfl) fun h=>?_;cbv
     refine L_if hE1 h (fun h=>?_) (fun h=>?_)<;>cbv
     · refine L_whole hE1 lay_ok (by kernel_rfl) (by kernel_rfl) ?_;cbv
       refine L_wrow hE1 hR h fun h=>?_;cbv
       refine L_row hE1 hR h fun r11 h=>?_;cbv
       refine L_wrow hE1 hR h fun h=>?_;cbv
       refine L_row hE1 hR h fun r12 h=>?_;cbv
       refine L_cdJ hE1 lay_ok h 21 (fun j2:Int ×(List GMatcher)=>[(3,fI .i64 j2.1)]) (fun j2=>[(0,.list 46 3 (R _ cMatcher j2.2))]) (fun j2 h=>?_) (fun j2 h=>?_)<;>cbv
       · refine L_if hE1 h (fun h=>?_) (fun h=>?_)<;>cbv
         · refine L_wrow hE1 hR h fun h=>?_;cbv
           refine L_row hE1 hR h fun r13 h=>?_;cbv
           refine L_row hE1 hR h fun r14 h=>?_;cbv
           refine L_row hE1 hR h fun r15 h=>?_;cbv
           refine L_put hE1 hR h fun l16 e h=>?_;cbv at e;rw [e];clear e
           cases h;(cbv;(try simp only [e_rnil hR]);repeat' (first | exact trivial | exact rfl | exact Or.inr trivial | apply And.intro))
         cases h;(cbv;(try simp only [e_rnil hR]);repeat' (first | exact trivial | exact rfl | exact Or.inr trivial | apply And.intro))
       refine hN3 _ (_,_,_,m3) [] h (Nat.lt_succ_self _) trivial ?_;(cbv;(try simp only [e_rnil hR]);repeat' (first | exact trivial | exact rfl | exact Or.inr trivial | apply And.intro))
     refine hX3 _ _ ?_;cbv
     refine L_wsin hE1 hR h (fun _=>rfl) fun h=>?_;cbv
     refine L_clr hE1 hR h (fun _=>rfl) fun l17 e h=>?_;cbv at e;rw [e];clear e
     refine L_cut hE1 hR h (hf1 _ (.inr ⟨hf _,_,_,_,rfl⟩)) (fun _=>rfl) fun l18 e h=>?_;cbv at e;rw [e];clear e
     refine hT2 _ ?_
     refine And.left (hQ1 _ _ rfl ?_);cbv
     exact And.left (hQ _ _ rfl (.inl ⟨_,rfl,by cases h;subst hR;rfl⟩))
   refine hN2 _ (_,m2) [] h (Nat.lt_succ_self _) trivial ?_;(cbv;(try simp only [e_rnil hR]);repeat' (first | exact trivial | exact rfl | exact Or.inr trivial | apply And.intro))
 refine hX2 _ _ ?_;cbv
 refine And.left (hQ1 _ _ rfl ?_);cbv
 exact And.left (hQ _ _ rfl (.inl ⟨_,rfl,by cases h;subst hR;rfl⟩))
end Gn
end Go.Proofs.YtpplemjjeefpdaaGreatDoor
namespace Go.Proofs.YtpplemjjeefpdaaGreatDoor
open Go Go.RowKit Go.ChangeShapes Go.WideShapes
theorem addr_off (b o j:Nat):(⟨b,o,none⟩:Addr).add j=⟨b,o+j,none⟩:=by simp [Addr.add]
def Fits (A:Option Addr) (n cap:Nat):Prop:=n≤cap∧(A=none→cap=0)
theorem Fits.none_:Fits none 0 0:=⟨Nat.le_refl _,fun _=>rfl⟩
section
variable {α:Type}
def RowsAt (n:Nat) (R:α→List Value→Prop) (G:Nat→Prop) (w:World) (A:Option Addr) (xs:List α):Prop:=
 0<xs.length→∃b o,A=some ⟨b,o,none⟩∧G b∧∀(k:Nat) (h:k<xs.length),∃cs,R xs[k] cs∧∀j u,cs[j]?=some u→w.cell? ⟨b,o+k*n+j,none⟩=some u
def Kept (G:Nat→Prop) (w w':World):Prop:=∀b,G b→w'.heap[b]?=w.heap[b]?
theorem Kept.cell {G:Nat→Prop} {w w':World} (h:Kept G w w') {b:Nat} (hb:G b) (o:Nat):w'.cell? ⟨b,o,none⟩=w.cell? ⟨b,o,none⟩:=World.cell?_of_block (h b hb)
theorem rows_nil {n:Nat} {R:α→List Value→Prop} {G:Nat→Prop} {w:World} {A:Option Addr}:RowsAt n R G w A ([]:List α):=fun h=>absurd h (by simp)
end
section
variable {H:Type} {enc:TypeId × Value→H} {P:Program} {W:World} {sp:Nat→Bool} {held:Bool}
theorem cell_place {a:Addr} {u:Value} (h:W.cell? a=some u):a=⟨a.block,a.off,none⟩∧a.block<W.heap.size:=by
 unfold World.cell? at h
 cases hb:W.heap[a.block]? with
 | none=>rw [hb] at h;cases h
 | some o=>
   rw [hb] at h
   refine ⟨?_,(Array.getElem?_eq_some_iff.1 hb).1⟩
   cases o with
   | cells c t fr=>
     dsimp only at h
     cases hs:a.spot with
     | none=>cases a;simp at hs;subst hs;rfl
     | some x=>rw [hs] at h;simp at h
   | _=>cases h
theorem rows_open {α:Type} {T e:TypeId} {n:Nat} {R:α→List Value→Prop} (hT:P.underlying T=some (.slice e)) (hn:P.cellsOf e=n) (hn0:0<n)
 (hR:∀(fuel:Nat) (cs:List Value) (x:DataW H × List MemPlace),DataW.trod enc P W 0 sp held fuel e cs=some x→∃a,R a cs∧cs.length=n) {fuel:Nat} {v:Value} {x:DataW H × List MemPlace}
 (h:DataW.trod enc P W 0 sp held fuel T [v]=some x):∃(A:Option Addr) (xs:List α) (cap:Nat),v=.slice A xs.length cap∧Fits A xs.length cap∧xs.length≤maxLen∧RowsAt n R (fun b=>b<W.heap.size) W A xs:=by
 rcases DataW.trod_slice hT h with ⟨e5,-⟩ | ⟨a,len,cap,elems,rest,m,rfl,e5,-,-,hlc,hcm,hel,hat,-,-⟩
 · injection e5 with e5 _
   exact ⟨none,[],0,e5,Fits.none_,Nat.zero_le _,rows_nil⟩
 · injection e5 with e5 _
   rw [hn] at hat
   have key:∀i,i≤len→∃(xs:List α),xs.length=i∧∀(k:Nat) (hk:k<xs.length),∃cs,R xs[k] cs∧cs.length=n∧∀j u,cs[j]?=some u→W.cell? (a.add (k*n+j))=some u:=by
    intro i
    induction i with
    | zero=>intro _;exact ⟨[],rfl,fun k hk=>absurd hk (by simp)⟩
    | succ i ih=>
      intro hi
      obtain ⟨xs,hl,hc⟩:=ih (by omega)
      have h1:=hat i (by omega)
      rw [List.getElem?_eq_getElem (by omega)] at h1
      obtain ⟨cs',h2,h3⟩:=Option.bind_eq_some_iff.1 h1
      obtain ⟨y,hy,hyl⟩:=hR m cs' _ h3
      obtain ⟨_,_,h4⟩:=World.cells?_some h2
      refine ⟨xs++[y],by rw [List.length_append,hl];rfl,fun k hk=>?_⟩
      rcases Nat.lt_or_ge k xs.length with hlt | hge
      · obtain ⟨cs,h5,h6,h7⟩:=hc k hlt
        refine ⟨cs,?_,h6,h7⟩
        rw [List.getElem_append_left hlt]
        exact h5
      · have hkl:k<xs.length+1:=by simpa using hk
        obtain rfl:k=xs.length:=by omega
        refine ⟨cs',?_,hyl,fun j u hj=>?_⟩
        · rw [List.getElem_append_right (Nat.le_refl _)]
          simpa using hy
        · have hj':j<n:=by rw [←hyl];exact (List.getElem?_eq_some_iff.1 hj).1
          have h8:=h4 j hj'
          rw [hj,Go.Deep.add_add,←hl] at h8
          exact h8
   obtain ⟨xs,hl,hc⟩:=key len (Nat.le_refl _)
   subst hl
   refine ⟨some a,xs,cap,e5,⟨hlc,fun h=>by cases h⟩,Nat.le_trans hlc hcm,fun hpos=>?_⟩
   obtain ⟨cs0,_,hl0,h0⟩:=hc 0 hpos
   have h1:=h0 0 _ (List.getElem?_eq_getElem (by omega))
   have ha0:a.add (0*n+0)=a:=by unfold Addr.add;simp
   rw [ha0] at h1
   obtain ⟨h2,h3⟩:=cell_place h1
   refine ⟨a.block,a.off,congrArg some h2,h3,fun k hk=>?_⟩
   obtain ⟨cs,h4,_,h5⟩:=hc k hk
   refine ⟨cs,h4,fun j u hj=>?_⟩
   have h6:=h5 j u hj
   rw [h2,addr_off,←Nat.add_assoc] at h6
   exact h6
end
end Go.Proofs.YtpplemjjeefpdaaGreatDoor
namespace Go.Proofs.YtpplemjjeefpdaaGreatDoor
open Go Go.RowKit Go.ChangeShapes Go.WideShapes
open Ab
namespace Op2
def CRep (G:Nat→Prop) (w:World) (ts:List T) (cs:List Value):Prop:=cs.length=ts.length∧∀(j:Nat) t u,ts[j]?=some t→cs[j]?=some u→TRep G w t u
theorem crep_nil {G:Nat→Prop} {w:World}:CRep G w [] []:=⟨rfl,fun j t u h=>by simp at h⟩
theorem crep_cons {G:Nat→Prop} {w:World} {t:T} {u:Value} {ts:List T} {cs:List Value} (h:TRep G w t u) (hr:CRep G w ts cs):CRep G w (t::ts) (u::cs):=by
 refine ⟨by simp [hr.1],fun j a b h1 h2=>?_⟩
 cases j with
 | zero=>simp at h1 h2;subst h1;subst h2;exact h
 | succ j=>exact hr.2 j a b (by simpa using h1) (by simpa using h2)
theorem crep_app {G:Nat→Prop} {w:World}:∀{ts us:List T} {cs ds:List Value},CRep G w ts cs→CRep G w us ds→CRep G w (ts++us) (cs++ds)
 | [],us,[],ds,_,h=>h
 | [],us,c::cs,ds,h,_=>by have:=h.1;simp at this
 | t::ts,us,[],ds,h,_=>by have:=h.1;simp at this
 | t::ts,us,c::cs,ds,h,g=>crep_cons (h.2 0 t c rfl rfl) (crep_app ⟨by have:=h.1;simpa using this,fun j a b h1 h2=>h.2 (j+1) a b (by simpa using h1) (by simpa using h2)⟩ g)
theorem slc_of {α:Type} {n:Nat} {row:α→List T} {R:α→List Value→Prop} {G:Nat→Prop} {w:World} {xs:List α} {A:Option Addr} {cap:Nat} (hn:∀x∈xs,(row x).length=n) (hR:∀x cs,x∈xs→R x cs→CRep G w (row x) cs)
 (hf:Fits A xs.length cap) (h:RowsAt n R G w A xs):TRep G w (.slc (xs.map row)) (.slice A xs.length cap):=by
 by_cases hpos:0<xs.length
 · obtain ⟨b,o,rfl,hG,hk⟩:=h hpos
   have key:∀i j t,((xs.map row)[i]?).bind (fun r=>r[j]?)=some t→∃u,w.cell? ⟨b,o+(i*n+j),none⟩=some u∧TRep G w t u:=fun i j t ht=>by
    rw [List.getElem?_map] at ht
    cases hx:xs[i]? with
    | none=>rw [hx] at ht;cases ht
    | some x=>
      rw [hx] at ht
      simp only [Option.map_some,Option.bind_some] at ht
      obtain ⟨hi,rfl⟩:=List.getElem?_eq_some_iff.1 hx
      obtain ⟨cs,h1,h2⟩:=hk i hi
      obtain ⟨g1,g2⟩:=hR _ cs (List.getElem_mem hi) h1
      have hj:j<cs.length:=by have:=(List.getElem?_eq_some_iff.1 ht).1;omega
      refine ⟨cs[j],?_,g2 j t _ ht (List.getElem?_eq_getElem hj)⟩
      have:=h2 j _ (List.getElem?_eq_getElem hj)
      rwa [show o+i*n+j=o+(i*n+j) by omega] at this
   have hlen:(xs.map row).length=xs.length:=List.length_map ..
   rw [←hlen]
   refine .slc _ _ b o n cap (fun i j=>(w.cell? ⟨b,o+(i*n+j),none⟩).getD undef) (by rw [hlen];exact hf.1) (fun e=>by cases e) (fun _=>⟨rfl,hG⟩) (fun r hr=>?_) (fun i j t ht=>?_) (fun i j t ht=>?_)
   · obtain ⟨x,hx,rfl⟩:=List.mem_map.1 hr
     exact hn x hx
   · obtain ⟨u,h1,-⟩:=key i j t ht
     rw [h1]
     rfl
   · obtain ⟨u,h1,h2⟩:=key i j t ht
     rw [h1]
     exact h2
 · obtain rfl:xs=[]:=List.eq_nil_of_length_eq_zero (by omega)
   exact .slc [] A 0 0 0 cap (fun _ _=>undef) (Nat.zero_le _) hf.2 (fun h=>absurd rfl h) (fun r h=>by simp at h) (fun i j t h=>by simp at h) (fun i j t h=>by simp at h)
section
variable {H:Type} {enc:TypeId × Value→H} {P:Program} {W:World} {sp:Nat→Bool} {held:Bool} {fuel:Nat} {x:DataW H × List MemPlace}
abbrev GW (W:World):Nat→Prop:=fun b=>b<W.heap.size
theorem o_int {t:TypeId} {k:IntKind} {cs:List Value} (ht:P.underlying t=some (.int k)) (h:DataW.trod enc P W 0 sp held fuel t cs=some x):∃a:Int,CRep (GW W) W [.flat (.int k a)] cs:=by
 obtain ⟨n,rfl,-,-⟩:=DataW.trod_int ht h
 exact ⟨n,crep_cons (.flat _ rfl) crep_nil⟩
theorem o_str {t:TypeId} {cs:List Value} (ht:P.underlying t=some .string) (h:DataW.trod enc P W 0 sp held fuel t cs=some x):∃a:ByteArray,CRep (GW W) W [.flat (.string a)] cs:=by
 obtain ⟨n,rfl,-,-⟩:=DataW.trod_string ht h
 exact ⟨n,crep_cons (.flat _ rfl) crep_nil⟩
theorem o_slc {α:Type} {t e:TypeId} {n:Nat} {c:α→List T} {cs:List Value} (hT:P.underlying t=some (.slice e)) (hn:P.cellsOf e=n) (hn0:0<n) (hc:∀a,(c a).length=n)
 (hR:∀(fuel:Nat) (cs:List Value) (x:DataW H × List MemPlace),DataW.trod enc P W 0 sp held fuel e cs=some x→∃a,CRep (GW W) W (c a) cs) (hl:cs.length=1)
 (h:DataW.trod enc P W 0 sp held fuel t cs=some x):∃l:List α,CRep (GW W) W [.slc (l.map c)] cs∧l.length≤maxLen:=by
 match cs,hl with
 | [v],_=>
 obtain ⟨A,xs,cap,rfl,hf,hm,hr⟩:=rows_open (α:=α) (R:=fun a cs=>CRep (GW W) W (c a) cs) hT hn hn0 (fun fuel cs x h=>by
  obtain ⟨a,ha⟩:=hR fuel cs x h
  exact ⟨a,ha,by rw [ha.1,hc]⟩) h
 exact ⟨xs,crep_cons (slc_of (fun a _=>hc a) (fun a cs _ h=>h) hf hr) crep_nil,hm⟩
theorem fld {fs:Array Field} {n:Nat} {cs:List Value} {xs:List (DataW H × List MemPlace)} (hl:xs.length=fs.size)
 (hf:∀(i:Nat) (f:Field),fs[i]?=some f→DataW.trod enc P W 0 sp held n f.type ((cs.drop f.offset).take (P.cellsOf f.type))=xs[i]?) (i:Nat) (f:Field) (h:fs[i]?=some f):
 ∃y,DataW.trod enc P W 0 sp held n f.type ((cs.drop f.offset).take (P.cellsOf f.type))=some y:=by
 have:=hf i f h
 obtain ⟨hi,-⟩:=Array.getElem?_eq_some_iff.1 h
 rw [List.getElem?_eq_getElem (by omega)] at this
 exact ⟨_,this⟩
theorem part_end {G:Nat→Prop} {cs:List Value} {o s:Nat} {ts:List T} (hl:cs.length=o+s) (h:CRep G W ts ((cs.drop o).take s)):CRep G W ts (cs.drop o):=by
 rwa [List.take_of_length_le (by rw [List.length_drop];omega)] at h
theorem part {G:Nat→Prop} {cs:List Value} {o s:Nat} {ts us:List T} (h:CRep G W ts ((cs.drop o).take s)) (hr:CRep G W us (cs.drop (o+s))):CRep G W (ts++us) (cs.drop o):=by
 have e:cs.drop o=(cs.drop o).take s++cs.drop (o+s):=by rw [←List.drop_drop,List.take_append_drop]
 rw [e]
 exact crep_app h hr
end
theorem vr_nil {cx:Cx} {w:World}:VReps cx w [] ⟨[]⟩:=⟨rfl,fun i c u h=>by simp at h⟩
theorem vr_cons {cx:Cx} {w:World} {a:V} {av:List V} {y:Value} {ys:List Value} (h:VRep cx w a y) (hr:VReps cx w av ⟨ys⟩):VReps cx w (a::av) ⟨y::ys⟩:=
 ⟨by have:=hr.1;simp at this ⊢;exact this,fun i c u h1 h2=>by
  cases i with
  | zero=>simp at h1 h2;subst h1;subst h2;exact h
  | succ i=>exact hr.2 i c u (by simpa using h1) (by simpa using h2)⟩
theorem v_one {cx:Cx} {w:World} {t:T} {y:Value} (h:CRep cx.G w [t] [y]):VRep cx w (.t t) y:=.t _ _ (h.2 0 t y rfl rfl)
end Op2
end Go.Proofs.YtpplemjjeefpdaaGreatDoor
namespace Go.Proofs.YtpplemjjeefpdaaGreatDoor
open Go Go.ChangeShapes Go.WideShapes Go.ChangeAt Go.RowKit
section
variable {H:Type} {enc:TypeId × Value→H} {P:Program} {W W':World}
theorem below_all (hl:laidOutB P=true) (hb:Below W.heap.size W W'):∀(ts:List TypeId) (vs:List Value) (ds:List (DataW H)) (ps:List MemPlace),
 (ts.all fun t=>P.readableRec t&&decide (t<P.types.size))=true→DataW.TrodAll enc P W 0 (fun _=>true) true ts vs ds ps→(∀x∈ps,x.block<W.heap.size)→
 DataW.TrodAll enc P W' 0 (fun b=>decide (b<W.heap.size)) true ts vs ds ps
 | [],vs,ds,ps,_,h,_=>by
   obtain ⟨rfl,rfl,rfl⟩:=trodAll_nil h
   exact trodAll_mk0
 | t::ts,vs,ds,ps,hr,h,hlt=>by
   obtain ⟨v,vs',d,ds',p,q,rfl,rfl,rfl,h0,r0⟩:=trodAll_cons h
   simp only [List.all_cons,Bool.and_eq_true,decide_eq_true_eq] at hr
   exact trodAll_cons_mk (Below.trod hl hr.1.1 hr.1.2 h0 hb (fun x hx=>hlt x (List.mem_append_left _ hx)))
    (below_all hl hb ts vs' ds' q (by simpa using hr.2) r0 (fun x hx=>hlt x (List.mem_append_right _ hx)))
theorem law_post {s:ChangeSpec} {f:Func} {args:Array Value} {ds gs:List (DataW H)} {before:List MemPlace} {t:TypeId} (hl:laidOutB P=true)
 (hr:(f.params.toList.all fun t=>P.readableRec t&&decide (t<P.types.size))=true) (hres:f.resultTypes=#[t]) (ht:P.underlying t=some .bool)
 (hv:s.vars=[]) (hfn:s.fn H (ds++gs)={results:=[.lit (.bool true)],args:=ds})
 (hW:DataW.Whole enc P f.params.toList s.vars false W args.toList ds gs before) (hb:Below W.heap.size W W'):s.post enc P f false true false false W args (.bool true) W':=by
 have hW':=hW
 have hlt:=hW.lt
 obtain ⟨p,q,hA,hV,rfl,_,_⟩:=hW
 refine ⟨ds,gs,_,[],p,[],hW',?_,?_,?_,hb.frame _,fun h=>by cases h⟩
 · rw [hfn,hres]
   exact trodAll_mk1 (shut_bool ht _)
 · rw [hfn]
   exact below_all hl hb _ _ _ _ hr hA (fun x hx=>by simpa using hlt x (List.mem_append_left _ hx))
 · rw [hfn,hv]
   exact rfl
end
def flatD:DataW Unit→List Value
 | .lit (.int k n)=>[.int k n]
 | .lit (.string s)=>[.string ⟨s.toArray⟩]
 | .agg ps=>flatDs ps
 | _=>[]
 where flatDs:List (DataW Unit)→List Value
 | []=>[]
 | d::r=>flatD d++flatDs r
end Go.Proofs.YtpplemjjeefpdaaGreatDoor
