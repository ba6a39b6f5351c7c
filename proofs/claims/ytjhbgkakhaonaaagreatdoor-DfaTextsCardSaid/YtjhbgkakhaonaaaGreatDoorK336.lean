/- Texts that the proof leans on. -/
import Derived.Test.YtjhbgkakhaonaaaGreatDoorK335
set_option linter.unusedVariables false
set_option linter.unusedSimpArgs false
set_option maxRecDepth 100000
set_option maxHeartbeats 4000000
namespace Go.Proofs.YtjhbgkakhaonaaaGreatDoor
open Go Go.RowKit
open Ab Sh
namespace Gn
theorem slices_Contains_150_w {N:Nat} {p0:List Int} {p1:Int} {r:Bool} (h:slices_Contains_150_g N p0 p1=some r):FunS Tryz.prog 52 [.t (.slc (rw _ (cI .i64) p0)),fI .i64 p1] (slices_Contains_150_s rw) r:=by
 refine fun_w lay_ok Tryz.call52 Tryz.func52 rfl ?_
 intro A W E Q R hE hR hf hQ;rcases W with ⟨ar,cm,conj,cv,sl,sc,ct,sa,ss,ll,_,_,_,_,mi,mx,_,_,_,_,_⟩
 rw [←hR]
 unfold slices_Contains_150_g at h
 rw [q_cm hE] at h
 cbv
 refine L_call hE hR h (fun _ e=>slices_Index_152_w e) (by subst hR;rfl) rfl fun a1 h=>?_;cbv
 exact And.left (hQ _ _ _ rfl rfl (by cases h;subst hR;rfl))
theorem dfa_key_w {N:Nat} {p0:List Bool} {r:ByteArray} (h:dfa_key_g N p0=some r):FunS Tryz.prog 83 [.t (.slc (rw _ cB p0))] (dfa_key_s rw) r:=by
 refine fun_w lay_ok Tryz.call83 Tryz.func83 rfl ?_
 intro A W E Q R hE hR hf hQ;rcases W with ⟨ar,cm,conj,cv,sl,sc,ct,sa,ss,ll,_,_,_,_,mi,mx,_,_,_,_,_⟩
 rw [←hR]
 unfold dfa_key_g at h
 rw [q_ar hE,q_cm hE,q_ll hE,←hR] at h
 cbv
 have hp1:=h
 refine L_for hE lay_ok 1 (fun g:Option (Int ×(List Int)× Nat)=>match g with | none=>[(8,fI .i64 0)] | some g=>[(8,fI .i64 g.1)]) (fun g=>match g with | none=>[(0,.box 131 [.t (.flat (.pointer none)),vNil])] | some g=>[(0,.box 131 [.ptr 0 0,.lst 1]),(1,.list 5 1 (R _ (cI .u8) g.2.1))]) (fun g=>match g with | none=>True | some g=>dfa_key_l1 p0 g.2.2 g.1 g.2.1=some r) (fun g=>match g with | none=>N+1 | some g=>g.2.2) none trivial ?_ ?_
 · (cbv;(try simp only [e_rnil hR]);repeat' (first | exact trivial | exact rfl | exact Or.inr trivial | apply And.intro))
 rintro (_ | ⟨v4,v5,m1⟩) h Q1 hN1 hT1 hX1
 · have h:=hp1
   cbv
   refine L_if hE h (fun h=>?_) (fun h=>?_)<;>cbv
   · refine L_row hE hR h fun r1 h=>?_;cbv
     refine L_cdJ hE lay_ok h 1 (fun j1:(List Int)×(List Int)=>[]) (fun j1=>[(0,.box 131 [.ptr 0 0,.lst 2]),(1,.list 5 1 (R _ (cI .u8) j1.1)),(2,.list 5 1 (R _ (cI .u8) j1.2))]) (fun j1 h=>?_) (fun j1 h=>?_)<;>cbv
     · refine L_if hE h (fun h=>?_) (fun h=>?_)<;>cbv
       · refine L_body hE lay_ok Tryz.call95 Tryz.func95 rfl ?_
         intro A2 E2 Q2 hE2 hf2 hQ2;cbv
         refine L_check hE2 rfl (.inl rfl) ?_;cbv
         refine L_nilL hE2 hR h rfl (fun _=>rfl) (by decide) fun l2 e h=>?_;(first | rw [e] | (cbv at e;rw [e]));clear e
         refine And.left (hQ2 _ _ rfl ?_);cbv
         cases h;(cbv;(try simp only [e_rnil hR]);repeat' (first | exact trivial | exact rfl | exact Or.inr trivial | apply And.intro))
       refine L_body hE lay_ok Tryz.call95 Tryz.func95 rfl ?_
       intro A3 E3 Q3 hE3 hf3 hQ3;cbv
       refine L_check hE3 rfl (.inl rfl) ?_;cbv
       refine L_nilL hE3 hR h rfl (fun _=>rfl) (by decide) fun l3 e h=>?_;(first | rw [e] | (cbv at e;rw [e]));clear e
       refine And.left (hQ3 _ _ rfl ?_);cbv
       cases h;(cbv;(try simp only [e_rnil hR]);repeat' (first | exact trivial | exact rfl | exact Or.inr trivial | apply And.intro))
     refine hN1 _ (some (_,_,N)) [(1,2)] h (Nat.lt_succ_self _) ⟨hf _,hf _,trivial⟩ ?_;(cbv;(try simp only [e_rnil hR]);repeat' (first | exact trivial | exact rfl | exact Or.inr trivial | apply And.intro))
   refine hX1 _ _ ?_;cbv
   refine L_str0 hE rfl ?_;cbv
   exact And.left (hQ _ _ _ rfl rfl (by cases h;subst hR;rfl))
 have h:dfa_key_l1 p0 m1 v4 v5=some r:=h
 cases m1 with
 | zero=>exact nomatch (show (none:Option _)=some _ from h)
 | succ m1=>
 rw [dfa_key_l1] at h
 rw [q_ar hE,q_cm hE,q_ll hE,←hR] at h
 cbv
 refine L_if hE h (fun h=>?_) (fun h=>?_)<;>cbv
 · refine L_row hE hR h fun r6 h=>?_;cbv
   refine L_cdJ hE lay_ok h 2 (fun j4:(List Int)=>[]) (fun j4=>[(1,.list 5 1 (R _ (cI .u8) j4))]) (fun j4 h=>?_) (fun j4 h=>?_)<;>cbv
   · refine L_if hE h (fun h=>?_) (fun h=>?_)<;>cbv
     · refine L_body hE lay_ok Tryz.call95 Tryz.func95 rfl ?_
       intro A4 E4 Q4 hE4 hf4 hQ4;cbv
       refine L_check hE4 rfl (.inr rfl) ?_;cbv
       refine L_appL hE4 hR h rfl (hf4 _ (.inr ⟨hf _,_,_,_,rfl⟩)) (fun _=>rfl) (by decide) fun l7 e h=>?_;cbv at e;rw [e];clear e
       refine And.left (hQ4 _ _ rfl ?_);cbv
       cases h;(cbv;(try simp only [e_rnil hR]);repeat' (first | exact trivial | exact rfl | exact Or.inr trivial | apply And.intro))
     refine L_body hE lay_ok Tryz.call95 Tryz.func95 rfl ?_
     intro A5 E5 Q5 hE5 hf5 hQ5;cbv
     refine L_check hE5 rfl (.inr rfl) ?_;cbv
     refine L_appL hE5 hR h rfl (hf5 _ (.inr ⟨hf _,_,_,_,rfl⟩)) (fun _=>rfl) (by decide) fun l8 e h=>?_;cbv at e;rw [e];clear e
     refine And.left (hQ5 _ _ rfl ?_);cbv
     cases h;(cbv;(try simp only [e_rnil hR]);repeat' (first | exact trivial | exact rfl | exact Or.inr trivial | apply And.intro))
   refine hN1 _ (some (_,_,m1)) [] h (Nat.lt_succ_self _) trivial ?_;(cbv;(try simp only [e_rnil hR]);repeat' (first | exact trivial | exact rfl | exact Or.inr trivial | apply And.intro))
 refine hX1 _ _ ?_;cbv
 refine L_str hE hR h rfl rfl (hf _) fun s9 h=>?_;cbv
 exact And.left (hQ _ _ _ rfl rfl (by cases h;subst hR;rfl))
theorem dfa_builder_meet_w {N:Nat} {p1:List Bool} {s0:Gdfa_builder} {r:Int × Gdfa_builder} (h:dfa_builder_meet_g N p1 s0=some r):HFun Tryz.prog 66 [.ptr 0 0,.t (.slc (rw _ cB p1))] [.box 64 [.t (.slc (rw _ cSet s0.p.Sets)),fB s0.p.None,.t (.slc (rw _ (cI .i64) s0.p.First)),.t (.slc (rw _ (cI .i64) s0.p.Last)),.t (.slc (rw _ (cLs (cI .i64)) s0.p.Next)),.t (.slc (rw _ (cLs (cI .i64)) s0.in_)),.mp 1,.lst 2,fI .i64 s0.out.Start,.lst 3,.t (.slc (rw _ (cI .i64) s0.out.Block)),.lst 4],.map 0 (rw _ (cMp Key.s) s0.seen),.list 23 1 (rw _ (cLs (cI .i64)) s0.sets),.list 4 1 (rw _ cB s0.out.Final),.list 23 1 (rw _ (cLs (cI .i64)) s0.out.Next)] (dfa_builder_meet_s rw r) (dfa_builder_meet_t rw r):=by
 refine hfun_w lay_ok Tryz.call66 Tryz.func66 rfl [true,false,false,false,false] rfl ?_
 intro A W E Q R hE hR hf hQ;rcases W with ⟨ar,cm,conj,cv,sl,sc,ct,sa,ss,ll,_,_,_,_,mi,mx,_,_,_,_,_⟩
 rw [←hR]
 unfold dfa_builder_meet_g at h
 rw [q_cm hE,q_ll hE,←hR] at h
 cbv
 refine L_call hE hR h (fun _ e=>dfa_key_w e) (by subst hR;rfl) rfl fun a1 h=>?_;cbv
 refine L_mget hE hR s_inj h rfl (fun n2 h=>?_) (fun h=>?_)<;>cbv
 · refine L_t hE ?_;cbv
   exact And.left (hQ _ _ _ _ rfl rfl rfl (by cases h;subst hR;rfl) (by cases h;subst hR;rfl))
 refine L_f hE ?_;cbv
 refine L_if hE h (fun h=>?_) (fun h=>?_)<;>cbv
 · exact And.left (hQ _ _ _ _ rfl rfl rfl (by cases h;subst hR;rfl) (by cases h;subst hR;rfl))
 refine L_mput hE hR s_inj h rfl fun m3 e h=>?_;cbv at e;rw [e];clear e
 refine L_for hE lay_ok 5 (fun g:Bool × Int ×(List Int)× Nat=>[(9,.lst 5),(10,fB g.1),(30,.lst 4),(42,fI .i64 g.2.1)]) (fun g=>[(5,.list 3 1 (R _ (cI .i64) g.2.2.1))]) (fun g=>dfa_builder_meet_l1 N p1 s0 m3 g.2.2.2 g.1 g.2.1 g.2.2.1=some r) (fun g=>g.2.2.2) (_,_,_,N) h ?_ ?_
 · (cbv;(try simp only [e_rnil hR]);repeat' (first | exact trivial | exact rfl | exact Or.inr trivial | apply And.intro))
 rintro ⟨v4,v5,v6,m1⟩ h Q1 hN1 hT1 hX1
 have h:dfa_builder_meet_l1 N p1 s0 m3 m1 v4 v5 v6=some r:=h
 cases m1 with
 | zero=>exact nomatch (show (none:Option _)=some _ from h)
 | succ m1=>
 rw [dfa_builder_meet_l1] at h
 rw [q_ar hE,q_cm hE,q_ll hE,←hR] at h
 cbv
 refine L_if hE h (fun h=>?_) (fun h=>?_)<;>cbv
 · refine L_row hE hR h fun r7 h=>?_;cbv
   refine L_cdJ hE lay_ok h 6 (fun j4:Bool ×(List Int)=>[(9,.lst 5),(10,fB j4.1)]) (fun j4=>[(5,.list 3 1 (R _ (cI .i64) j4.2))]) (fun j4 h=>?_) (fun j4 h=>?_)<;>cbv
   · refine L_if hE h (fun h=>?_) (fun h=>?_)<;>cbv
     · refine L_appL hE hR h rfl (hf _ rfl) (fun _=>rfl) (by decide) fun l8 e h=>?_;cbv at e;rw [e];clear e
       refine L_rgJ hE lay_ok h 7 (fun j3:Bool=>[(10,fB j3)]) (fun j3=>[]) (fun j3 h=>?_) (fun j3 h=>?_)<;>cbv
       · refine L_if hE h (fun h=>?_) (fun h=>?_)<;>cbv
         · cases h;(cbv;(try simp only [e_rnil hR]);repeat' (first | exact trivial | exact rfl | exact Or.inr trivial | apply And.intro))
         refine L_call hE hR h (fun _ e=>slices_Contains_150_w e) (by subst hR;rfl) rfl fun a9 h=>?_;cbv
         cases h;(cbv;(try simp only [e_rnil hR]);repeat' (first | exact trivial | exact rfl | exact Or.inr trivial | apply And.intro))
       cases h;(cbv;(try simp only [e_rnil hR]);repeat' (first | exact trivial | exact rfl | exact Or.inr trivial | apply And.intro))
     cases h;(cbv;(try simp only [e_rnil hR]);repeat' (first | exact trivial | exact rfl | exact Or.inr trivial | apply And.intro))
   refine hN1 _ (_,_,_,m1) [] h (Nat.lt_succ_self _) trivial ?_;(cbv;(try simp only [e_rnil hR]);repeat' (first | exact trivial | exact rfl | exact Or.inr trivial | apply And.intro))
 refine hX1 _ _ ?_;cbv
 refine L_shut hE 5 rfl (hf _ rfl) ?_;cbv
 refine L_hcall hE hR [0,1,2,3,4] [true,false,false,false,false] h (fun _ e=>dfa_builder_add_w e) rfl rfl rfl rfl (by subst hR;rfl) (by subst hR;rfl) ⟨(hf _ rfl),(hf _ rfl),(hf _ rfl),(hf _ rfl),trivial⟩ fun a10 h=>?_;cbv
 exact And.left (hQ _ _ _ _ rfl rfl rfl (by cases h;subst hR;rfl) (by cases h;subst hR;rfl))
theorem dfa_builder_step_w {N:Nat} {p1:Int} {s0:Gdfa_builder} {r:Bool × Gdfa_builder} (h:dfa_builder_step_g N p1 s0=some r):HFun Tryz.prog 34 [.ptr 0 0,fI .i64 p1] [.box 64 [.t (.slc (rw _ cSet s0.p.Sets)),fB s0.p.None,.t (.slc (rw _ (cI .i64) s0.p.First)),.t (.slc (rw _ (cI .i64) s0.p.Last)),.t (.slc (rw _ (cLs (cI .i64)) s0.p.Next)),.t (.slc (rw _ (cLs (cI .i64)) s0.in_)),.mp 1,.lst 2,fI .i64 s0.out.Start,.lst 3,.t (.slc (rw _ (cI .i64) s0.out.Block)),.lst 4],.map 0 (rw _ (cMp Key.s) s0.seen),.list 23 1 (rw _ (cLs (cI .i64)) s0.sets),.list 4 1 (rw _ cB s0.out.Final),.list 23 1 (rw _ (cLs (cI .i64)) s0.out.Next)] (dfa_builder_step_s rw r) (dfa_builder_step_t rw r):=by
 refine hfun_w lay_ok Tryz.call34 Tryz.func34 rfl [true,false,false,false,false] rfl ?_
 intro A W E Q R hE hR hf hQ;rcases W with ⟨ar,cm,conj,cv,sl,sc,ct,sa,ss,ll,_,_,_,_,mi,mx,_,_,_,_,_⟩
 rw [←hR]
 unfold dfa_builder_step_g at h
 rw [q_cm hE,q_ll hE,←hR] at h
 cbv
 refine L_zro hE hR h (by decide) fun l1 e h=>?_;cbv at e;rw [e];clear e
 refine L_cdJ hE lay_ok h 7 (fun j1:(List Bool)=>[]) (fun j1=>[(5,.list 4 1 (R _ cB j1))]) (fun j1 h=>?_) (fun j1 h=>?_)<;>cbv
 · refine L_if hE h (fun h=>?_) (fun h=>?_)<;>cbv
   · refine L_keep hE lay_ok Tryz.call65 Tryz.func65 rfl ?_
     intro A1 E1 Q1 hE1 hf1 hQ1;cbv
     refine L_for hE1 lay_ok 7 (fun g:Int ×(List Bool)× Nat=>[(7,fI .i64 g.1)]) (fun g=>[(5,.list 4 1 (R _ cB g.2.1))]) (fun g=>dfa_builder_step_l2 s0 g.2.2 g.1 g.2.1=some j1) (fun g=>g.2.2) (_,_,N) h ?_ ?_
     · (cbv;(try simp only [e_rnil hR]);repeat' (first | exact trivial | exact rfl | exact Or.inr trivial | apply And.intro))
     rintro ⟨v2,v3,m2⟩ h Q2 hN2 hT2 hX2
     have h:dfa_builder_step_l2 s0 m2 v2 v3=some j1:=h
     cases m2 with
     | zero=>exact nomatch (show (none:Option _)=some _ from h)
     | succ m2=>
     rw [dfa_builder_step_l2] at h
     rw [q_ar hE,q_cm hE,q_ll hE,←hR] at h
     cbv
     refine L_if hE1 h (fun h=>?_) (fun h=>?_)<;>cbv
     · refine L_row hE1 hR h fun r4 h=>?_;cbv
       refine L_row hE1 hR h fun r5 h=>?_;cbv
       refine L_row hE1 hR h fun r6 h=>?_;cbv
       refine L_put hE1 hR h fun l7 e h=>?_;cbv at e;rw [e];clear e
       refine hN2 _ (_,_,m2) [] h (Nat.lt_succ_self _) trivial ?_;(cbv;(try simp only [e_rnil hR]);repeat' (first | exact trivial | exact rfl | exact Or.inr trivial | apply And.intro))
     refine hX2 _ _ ?_;cbv
     refine And.right (hQ1 _ _ rfl ?_);cbv
     cases h;(cbv;(try simp only [e_rnil hR]);repeat' (first | exact trivial | exact rfl | exact Or.inr trivial | apply And.intro))
   cases h;(cbv;(try simp only [e_rnil hR]);repeat' (first | exact trivial | exact rfl | exact Or.inr trivial | apply And.intro))
 refine L_rowL hE hR h fun r8 h=>?_;cbv
 refine L_rowL hE hR h fun r9 h=>?_;cbv
 refine L_for hE lay_ok 7 (fun g:Int ×(List Bool)× Nat=>[(21,.lst 5),(35,.lst 2),(37,.elt 2 p1 0),(40,fI .i64 g.1)]) (fun g=>[(5,.list 4 1 (R _ cB g.2.1))]) (fun g=>dfa_builder_step_l3 N p1 s0 r9 g.2.2 g.1 g.2.1=some r) (fun g=>g.2.2) (_,_,N) h ?_ ?_
 · (cbv;(try simp only [e_rnil hR]);repeat' (first | exact trivial | exact rfl | exact Or.inr trivial | apply And.intro))
 rintro ⟨v10,v11,m3⟩ h Q3 hN3 hT3 hX3
 have h:dfa_builder_step_l3 N p1 s0 r9 m3 v10 v11=some r:=h
 cases m3 with
 | zero=>exact nomatch (show (none:Option _)=some _ from h)
 | succ m3=>
 rw [dfa_builder_step_l3] at h
 rw [q_cm hE,q_ll hE,←hR] at h
 cbv
 refine L_if hE h (fun h=>?_) (fun h=>?_)<;>cbv
 · refine L_row hE hR h fun r12 h=>?_;cbv
   refine L_rowL hE hR h fun r13 h=>?_;cbv
   refine L_keep hE lay_ok Tryz.call65 Tryz.func65 rfl ?_
   intro A4 E4 Q4 hE4 hf4 hQ4;cbv
   refine L_for hE4 lay_ok 7 (fun g:Int ×(List Bool)× Nat=>[(7,fI .i64 g.1)]) (fun g=>[(5,.list 4 1 (R _ cB g.2.1))]) (fun g=>dfa_builder_step_l5 (dfa_builder_step_l3 N p1 s0 r9 m3) v10 r13 g.2.2 g.1 g.2.1=some r) (fun g=>g.2.2) (_,_,N) h ?_ ?_
   · (cbv;(try simp only [e_rnil hR]);repeat' (first | exact trivial | exact rfl | exact Or.inr trivial | apply And.intro))
   rintro ⟨v14,v15,m5⟩ h Q5 hN5 hT5 hX5
   have h:dfa_builder_step_l5 (dfa_builder_step_l3 N p1 s0 r9 m3) v10 r13 m5 v14 v15=some r:=h
   cases m5 with
   | zero=>exact nomatch (show (none:Option _)=some _ from h)
   | succ m5=>
   rw [dfa_builder_step_l5] at h
   rw [q_ar hE,q_cm hE,q_ll hE,←hR] at h
   cbv
   refine L_if hE4 h (fun h=>?_) (fun h=>?_)<;>cbv
   · refine L_row hE4 hR h fun r16 h=>?_;cbv
     refine L_row hE4 hR h fun r17 h=>?_;cbv
     refine L_row hE4 hR h fun r18 h=>?_;cbv
     refine L_put hE4 hR h fun l19 e h=>?_;cbv at e;rw [e];clear e
     refine hN5 _ (_,_,m5) [] h (Nat.lt_succ_self _) trivial ?_;(cbv;(try simp only [e_rnil hR]);repeat' (first | exact trivial | exact rfl | exact Or.inr trivial | apply And.intro))
   refine hX5 _ _ ?_;cbv
   refine And.right (hQ4 _ _ rfl ?_);cbv
   refine hN3 _ (_,_,m3) [] h (Nat.lt_succ_self _) trivial ?_;(cbv;(try simp only [e_rnil hR]);repeat' (first | exact trivial | exact rfl | exact Or.inr trivial | apply And.intro))
 refine hX3 _ _ ?_;cbv
 refine L_zro hE hR h (by decide) fun l20 e h=>?_;cbv at e;rw [e];clear e
 refine L_for hE lay_ok 8 (fun g:Int ×(List CSet)× Bool ×(List Int)×(List Int)×(List (List Int))×(List (List Int))× Int ×(List Int)×(List (ByteArray × Int))×(List (List Int))×(List Bool)×(List (List Int))×(List Int)× Nat=>[(4,fB false),(9,.lst 7),(21,.lst 5),(60,.lst 7),(66,fI .i64 g.1)]) (fun g=>[(0,.box 64 [.t (.slc (R _ cSet g.2.1)),fB g.2.2.1,.t (.slc (R _ (cI .i64) g.2.2.2.1)),.t (.slc (R _ (cI .i64) g.2.2.2.2.1)),.t (.slc (R _ (cLs (cI .i64)) g.2.2.2.2.2.1)),.t (.slc (R _ (cLs (cI .i64)) g.2.2.2.2.2.2.1)),.mp 1,.lst 2,fI .i64 g.2.2.2.2.2.2.2.1,.lst 3,.t (.slc (R _ (cI .i64) g.2.2.2.2.2.2.2.2.1)),.lst 4]),(1,.map 0 (R _ (cMp Key.s) g.2.2.2.2.2.2.2.2.2.1)),(2,.list 23 1 (R _ (cLs (cI .i64)) g.2.2.2.2.2.2.2.2.2.2.1)),(3,.list 4 1 (R _ cB g.2.2.2.2.2.2.2.2.2.2.2.1)),(4,.list 23 1 (R _ (cLs (cI .i64)) g.2.2.2.2.2.2.2.2.2.2.2.2.1)),(7,.list 3 1 (R _ (cI .i64) g.2.2.2.2.2.2.2.2.2.2.2.2.2.1))]) (fun g=>dfa_builder_step_l6 N p1 s0 v11 g.2.2.2.2.2.2.2.2.2.2.2.2.2.2 g.1 g.2.1 g.2.2.1 g.2.2.2.1 g.2.2.2.2.1 g.2.2.2.2.2.1 g.2.2.2.2.2.2.1 g.2.2.2.2.2.2.2.1 g.2.2.2.2.2.2.2.2.1 g.2.2.2.2.2.2.2.2.2.1 g.2.2.2.2.2.2.2.2.2.2.1 g.2.2.2.2.2.2.2.2.2.2.2.1 g.2.2.2.2.2.2.2.2.2.2.2.2.1 g.2.2.2.2.2.2.2.2.2.2.2.2.2.1=some r) (fun g=>g.2.2.2.2.2.2.2.2.2.2.2.2.2.2) (_,_,_,_,_,_,_,_,_,_,_,_,_,_,N) h ?_ ?_
 · (cbv;(try simp only [e_rnil hR]);repeat' (first | exact trivial | exact rfl | exact Or.inr trivial | apply And.intro))
 rintro ⟨v21,v22,v23,v24,v25,v26,v27,v28,v29,v30,v31,v32,v33,v34,m6⟩ h Q6 hN6 hT6 hX6
 have h:dfa_builder_step_l6 N p1 s0 v11 m6 v21 v22 v23 v24 v25 v26 v27 v28 v29 v30 v31 v32 v33 v34=some r:=h
 cases m6 with
 | zero=>exact nomatch (show (none:Option _)=some _ from h)
 | succ m6=>
 rw [dfa_builder_step_l6] at h
 rw [q_cm hE,q_ll hE,←hR] at h
 cbv
 refine L_if hE h (fun h=>?_) (fun h=>?_)<;>cbv
 · refine L_rowL hE hR h fun r35 h=>?_;cbv
   refine L_zro hE hR h (by decide) fun l36 e h=>?_;cbv at e;rw [e];clear e
   refine L_for hE lay_ok 9 (fun g:Int ×(List Bool)× Nat=>[(9,.lst 7),(12,.lst 8),(21,.lst 5),(60,.lst 7),(71,.lst 5),(73,.lst 8),(76,fI .i64 g.1)]) (fun g=>[(8,.list 4 1 (R _ cB g.2.1))]) (fun g=>dfa_builder_step_l7 N (dfa_builder_step_l6 N p1 s0 v11 m6) v21 v24 r35 v25 v22 v23 v26 v27 v28 v29 v30 v31 v32 v33 v34 v11 g.2.2 g.1 g.2.1=some r) (fun g=>g.2.2) (_,_,N) h ?_ ?_
   · (cbv;(try simp only [e_rnil hR]);repeat' (first | exact trivial | exact rfl | exact Or.inr trivial | apply And.intro))
   rintro ⟨v37,v38,m7⟩ h Q7 hN7 hT7 hX7
   have h:dfa_builder_step_l7 N (dfa_builder_step_l6 N p1 s0 v11 m6) v21 v24 r35 v25 v22 v23 v26 v27 v28 v29 v30 v31 v32 v33 v34 v11 m7 v37 v38=some r:=h
   cases m7 with
   | zero=>exact nomatch (show (none:Option _)=some _ from h)
   | succ m7=>
   rw [dfa_builder_step_l7] at h
   rw [q_ar hE,q_cm hE,q_ll hE,←hR] at h
   cbv
   refine L_if hE h (fun h=>?_) (fun h=>?_)<;>cbv
   · refine L_row hE hR h fun r39 h=>?_;cbv
     refine L_row hE hR h fun r40 h=>?_;cbv
     refine L_row hE hR h fun r41 h=>?_;cbv
     refine L_row hE hR h fun r42 h=>?_;cbv
     refine L_row hE hR h fun r43 h=>?_;cbv
     refine L_put hE hR h fun l44 e h=>?_;cbv at e;rw [e];clear e
     refine hN7 _ (_,_,m7) [] h (Nat.lt_succ_self _) trivial ?_;(cbv;(try simp only [e_rnil hR]);repeat' (first | exact trivial | exact rfl | exact Or.inr trivial | apply And.intro))
   refine hX7 _ _ ?_;cbv
   refine L_shut hE 8 rfl (hf _ rfl) ?_;cbv
   refine L_hcall hE hR [0,1,2,3,4] [true,false,false,false,false] h (fun _ e=>dfa_builder_meet_w e) rfl rfl rfl rfl (by subst hR;rfl) (by subst hR;rfl) ⟨(hf _ rfl),(hf _ rfl),(hf _ rfl),(hf _ rfl),trivial⟩ fun a45 h=>?_;cbv
   refine L_row hE hR h fun r46 h=>?_;cbv
   refine L_row hE hR h fun r47 h=>?_;cbv
   refine L_put hE hR h fun l48 e h=>?_;cbv at e;rw [e];clear e
   refine L_row hE hR h fun r49 h=>?_;cbv
   refine L_row hE hR h fun r50 h=>?_;cbv
   refine L_if hE h (fun h=>?_) (fun h=>?_)<;>cbv
   · refine hT6 _ ?_
     exact And.left (hQ _ _ _ _ rfl rfl rfl (by cases h;subst hR;rfl) (by cases h;subst hR;rfl))
   refine hN6 _ (_,_,_,_,_,_,_,_,_,_,_,_,_,_,m6) [] h (Nat.lt_succ_self _) trivial ?_;(cbv;(try simp only [e_rnil hR]);repeat' (first | exact trivial | exact rfl | exact Or.inr trivial | apply And.intro))
 refine hX6 _ _ ?_;cbv
 refine L_tail hE lay_ok (by kernel_rfl) 10 (by kernel_rfl) ?_;cbv
 refine L_zro hE hR h (by decide) fun l51 e h=>?_;cbv at e;rw [e];clear e
 refine L_rowL hE hR h fun r52 h=>?_;cbv
 refine L_rowL hE hR h fun r53 h=>?_;cbv
 refine L_rowL hE hR h fun r54 h=>?_;cbv
 refine L_cpyh hE hR h (hf _ rfl) (fun _=>rfl) fun l55 e h=>?_;cbv at e;rw [e];clear e
 exact And.left (hQ _ _ _ _ rfl rfl rfl (by cases h;subst hR;rfl) (by cases h;subst hR;rfl))
end Gn
end Go.Proofs.YtjhbgkakhaonaaaGreatDoor
namespace Go.Proofs.YtjhbgkakhaonaaaGreatDoor
open Go Go.RowKit
open Ab Sh
namespace Gn
theorem dfa_Of_w {N:Nat} {p0:GSpots} {r:GDfa × Int} (h:dfa_Of_g N p0=some r):FunS Tryz.prog 16 [.agg [.t (.slc (rw _ cSet p0.Sets)),fB p0.None,.t (.slc (rw _ (cI .i64) p0.First)),.t (.slc (rw _ (cI .i64) p0.Last)),.t (.slc (rw _ (cLs (cI .i64)) p0.Next))]] (dfa_Of_s rw) r:=by
 refine fun_w lay_ok Tryz.call16 Tryz.func16 rfl ?_
 intro A W E Q R hE hR hf hQ;rcases W with ⟨ar,cm,conj,cv,sl,sc,ct,sa,ss,ll,_,_,_,_,mi,mx,_,_,_,_,_⟩
 rw [←hR]
 unfold dfa_Of_g at h
 skip
 cbv
 refine L_call hE hR h (fun _ e=>spots_Right_w e) (by subst hR;rfl) rfl fun a1 h=>?_;cbv
 refine L_if hE h (fun h=>?_) (fun h=>?_)<;>cbv
 · exact And.left (hQ _ _ _ rfl rfl (by cases h;subst hR;rfl))
 refine L_call hE hR h (fun _ e=>blocks_Of_w e) (by subst hR;rfl) rfl fun a2 h=>?_;cbv
 refine L_call hE hR h (fun _ e=>blocks_Count_w e) (by subst hR;rfl) rfl fun a3 h=>?_;cbv
 refine L_opnL hE 3 5 23 1 rfl rfl ?_;cbv
 refine L_for hE lay_ok 5 (fun g:Int ×(List (List Int))× Nat=>[(32,fI .i64 g.1)]) (fun g=>[(4,.list 23 1 (R _ (cLs (cI .i64)) g.2.1))]) (fun g=>dfa_Of_l1 N p0 a2 a3 g.2.2 g.1 g.2.1=some r) (fun g=>g.2.2) (_,_,N) h ?_ ?_
 · (cbv;(try simp only [e_rnil hR]);repeat' (first | exact trivial | exact rfl | exact Or.inr trivial | apply And.intro))
 rintro ⟨v4,v5,m1⟩ h Q1 hN1 hT1 hX1
 have h:dfa_Of_l1 N p0 a2 a3 m1 v4 v5=some r:=h
 cases m1 with
 | zero=>exact nomatch (show (none:Option _)=some _ from h)
 | succ m1=>
 rw [dfa_Of_l1] at h
 rw [q_cm hE] at h
 cbv
 refine L_if hE h (fun h=>?_) (fun h=>?_)<;>cbv
 · refine L_call hE hR h (fun _ e=>blocks_First_w e) (by subst hR;rfl) rfl fun a6 h=>?_;cbv
   refine L_for hE lay_ok 5 (fun g:Int ×(List Int)× Nat=>[(7,.lst 5),(46,fI .i64 g.1)]) (fun g=>[(5,.list 3 1 (R _ (cI .i64) g.2.1))]) (fun g=>dfa_Of_l2 (dfa_Of_l1 N p0 a2 a3 m1) p0 v4 v5 a6 g.2.2 g.1 g.2.1=some r) (fun g=>g.2.2) (_,_,N) h ?_ ?_
   · (cbv;(try simp only [e_rnil hR]);repeat' (first | exact trivial | exact rfl | exact Or.inr trivial | apply And.intro))
   rintro ⟨v7,v8,m2⟩ h Q2 hN2 hT2 hX2
   have h:dfa_Of_l2 (dfa_Of_l1 N p0 a2 a3 m1) p0 v4 v5 a6 m2 v7 v8=some r:=h
   cases m2 with
   | zero=>exact nomatch (show (none:Option _)=some _ from h)
   | succ m2=>
   rw [dfa_Of_l2] at h
   rw [q_ar hE,q_cm hE,q_cv hE,q_ll hE,←hR] at h
   cbv
   refine L_if hE h (fun h=>?_) (fun h=>?_)<;>cbv
   · refine L_row hE hR h fun r9 h=>?_;cbv
     refine L_call hE hR h (fun _ e=>charset_Has_w e) rfl rfl fun a10 h=>?_;cbv
     refine L_cdJ hE lay_ok h 7 (fun j4:(List Int)=>[(7,.lst 5)]) (fun j4=>[(5,.list 3 1 (R _ (cI .i64) j4))]) (fun j4 h=>?_) (fun j4 h=>?_)<;>cbv
     · refine L_if hE h (fun h=>?_) (fun h=>?_)<;>cbv
       · refine L_appL hE hR h rfl (hf _) (fun _=>rfl) (by decide) fun l11 e h=>?_;cbv at e;rw [e];clear e
         cases h;(cbv;(try simp only [e_rnil hR]);repeat' (first | exact trivial | exact rfl | exact Or.inr trivial | apply And.intro))
       cases h;(cbv;(try simp only [e_rnil hR]);repeat' (first | exact trivial | exact rfl | exact Or.inr trivial | apply And.intro))
     refine hN2 _ (_,_,m2) [] h (Nat.lt_succ_self _) trivial ?_;(cbv;(try simp only [e_rnil hR]);repeat' (first | exact trivial | exact rfl | exact Or.inr trivial | apply And.intro))
   refine hX2 _ _ ?_;cbv
   refine ⟨(hf _),?_⟩
   refine L_appL hE hR h (by subst hR;rfl) (hf _) (fun _=>rfl) (by decide) fun l12 e h=>?_;cbv at e;rw [e];clear e
   refine hN1 _ (_,_,m1) [] h (Nat.lt_succ_self _) trivial ?_;(cbv;(try simp only [e_rnil hR]);repeat' (first | exact trivial | exact rfl | exact Or.inr trivial | apply And.intro))
 refine hX1 _ _ ?_;cbv
 refine L_shut hE 4 rfl (hf _) ?_;cbv
 refine L_opn hE 3 7 23 1 rfl rfl ?_;cbv
 refine L_opn hE 3 9 4 1 rfl rfl ?_;cbv
 refine L_opn hE 3 11 23 1 rfl rfl ?_;cbv
 refine L_hcall hE hR [3,2,5,6,7] [true,false,false,false,false] h (fun _ e=>dfa_builder_add_w e) rfl rfl rfl rfl (by subst hR;rfl) (by subst hR;rfl) ⟨(hf _),(hf _),(hf _),(hf _),trivial⟩ fun a13 h=>?_;cbv
 refine L_for hE lay_ok 8 (fun g:Int ×(List (ByteArray × Int))×(List CSet)× Bool ×(List Int)×(List Int)×(List (List Int))×(List (List Int))× Int ×(List Int)×(List (List Int))×(List Bool)×(List (List Int))× Nat=>[(3,fI .i64 0),(10,fI .i64 g.1)]) (fun g=>[(2,.map 0 (R _ (cMp Key.s) g.2.1)),(3,.box 64 [.t (.slc (R _ cSet g.2.2.1)),fB g.2.2.2.1,.t (.slc (R _ (cI .i64) g.2.2.2.2.1)),.t (.slc (R _ (cI .i64) g.2.2.2.2.2.1)),.t (.slc (R _ (cLs (cI .i64)) g.2.2.2.2.2.2.1)),.t (.slc (R _ (cLs (cI .i64)) g.2.2.2.2.2.2.2.1)),.mp 2,.lst 5,fI .i64 g.2.2.2.2.2.2.2.2.1,.lst 6,.t (.slc (R _ (cI .i64) g.2.2.2.2.2.2.2.2.2.1)),.lst 7]),(5,.list 23 1 (R _ (cLs (cI .i64)) g.2.2.2.2.2.2.2.2.2.2.1)),(6,.list 4 1 (R _ cB g.2.2.2.2.2.2.2.2.2.2.2.1)),(7,.list 23 1 (R _ (cLs (cI .i64)) g.2.2.2.2.2.2.2.2.2.2.2.2.1))]) (fun g=>dfa_Of_l3 N g.2.2.2.2.2.2.2.2.2.2.2.2.2 g.1 g.2.1 g.2.2.1 g.2.2.2.1 g.2.2.2.2.1 g.2.2.2.2.2.1 g.2.2.2.2.2.2.1 g.2.2.2.2.2.2.2.1 g.2.2.2.2.2.2.2.2.1 g.2.2.2.2.2.2.2.2.2.1 g.2.2.2.2.2.2.2.2.2.2.1 g.2.2.2.2.2.2.2.2.2.2.2.1 g.2.2.2.2.2.2.2.2.2.2.2.2.1=some r) (fun g=>g.2.2.2.2.2.2.2.2.2.2.2.2.2) (_,_,_,_,_,_,_,_,_,_,_,_,_,N) h ?_ ?_
 · (cbv;(try simp only [e_rnil hR]);repeat' (first | exact trivial | exact rfl | exact Or.inr trivial | apply And.intro))
 rintro ⟨v14,v15,v16,v17,v18,v19,v20,v21,v22,v23,v24,v25,v26,m3⟩ h Q3 hN3 hT3 hX3
 have h:dfa_Of_l3 N m3 v14 v15 v16 v17 v18 v19 v20 v21 v22 v23 v24 v25 v26=some r:=h
 cases m3 with
 | zero=>exact nomatch (show (none:Option _)=some _ from h)
 | succ m3=>
 rw [dfa_Of_l3] at h
 rw [q_ar hE,q_cm hE,q_ll hE,←hR] at h
 cbv
 refine L_if hE h (fun h=>?_) (fun h=>?_)<;>cbv
 · refine L_hcall hE hR [3,2,5,6,7] [true,false,false,false,false] h (fun _ e=>dfa_builder_step_w e) rfl rfl rfl rfl (by subst hR;rfl) (by subst hR;rfl) ⟨(hf _),(hf _),(hf _),(hf _),trivial⟩ fun a27 h=>?_;cbv
   refine L_if hE h (fun h=>?_) (fun h=>?_)<;>cbv
   · refine hT3 _ ?_
     exact And.left (hQ _ _ _ rfl rfl (by cases h;subst hR;rfl))
   refine hN3 _ (_,_,_,_,_,_,_,_,_,_,_,_,_,m3) [] h (Nat.lt_succ_self _) trivial ?_;(cbv;(try simp only [e_rnil hR]);repeat' (first | exact trivial | exact rfl | exact Or.inr trivial | apply And.intro))
 refine hX3 _ _ ?_;cbv
 exact And.left (hQ _ _ _ rfl rfl (by cases h;subst hR;rfl))
theorem math_bits_Mul64_w {p0:Int} {p1:Int} {r:Int × Int} (h:math_bits_Mul64_g p0 p1=some r):FunS Tryz.prog 86 [fI .u64 p0,fI .u64 p1] (math_bits_Mul64_s rw) r:=by
 refine fun_w lay_ok Tryz.call86 Tryz.func86 rfl ?_
 intro A W E Q R hE hR hf hQ;rcases W with ⟨ar,cm,conj,cv,sl,sc,ct,sa,ss,ll,_,_,_,_,mi,mx,_,_,_,_,_⟩
 unfold math_bits_Mul64_g at h
 rw [q_ar hE] at h
 cbv
 refine L_ge0 hE h fun h=>?_
 refine L_ge0 hE h fun h=>?_
 refine L_ge0 hE h fun h=>?_
 refine L_ge0 hE h fun h=>?_
 refine L_ge0 hE h fun h=>?_
 exact And.left (hQ _ _ _ rfl rfl (by cases h;subst hR;rfl))
theorem math_bits_Mul_w {p0:Int} {p1:Int} {r:Int × Int} (h:math_bits_Mul_g p0 p1=some r):FunS Tryz.prog 71 [fI .u64 p0,fI .u64 p1] (math_bits_Mul_s rw) r:=by
 refine fun_w lay_ok Tryz.call71 Tryz.func71 rfl ?_
 intro A W E Q R hE hR hf hQ;rcases W with ⟨ar,cm,conj,cv,sl,sc,ct,sa,ss,ll,_,_,_,_,mi,mx,_,_,_,_,_⟩
 unfold math_bits_Mul_g at h
 skip
 cbv
 refine L_f hE ?_;cbv
 refine L_call hE hR h (fun _ e=>math_bits_Mul64_w e) rfl rfl fun a1 h=>?_;cbv
 exact And.left (hQ _ _ _ rfl rfl (by cases h;subst hR;rfl))
end Gn
end Go.Proofs.YtjhbgkakhaonaaaGreatDoor
