/- Texts that the proof leans on. -/
import Derived.Test.YtjhbgkakhaonaaaGreatDoorK332
set_option linter.unusedVariables false
set_option linter.unusedSimpArgs false
set_option maxRecDepth 100000
set_option maxHeartbeats 4000000
namespace Go.Proofs.YtjhbgkakhaonaaaGreatDoor
open Go Go.RowKit
open Ab Sh
namespace Gn
theorem l18_Great_w {N:Nat} {p0:GDfa} {r:Bool} (h:l18_Great_g N p0=some r):FunS Tryz.prog 7 [.agg [fI .i64 p0.Start,.t (.slc (rw _ cB p0.Final)),.t (.slc (rw _ (cI .i64) p0.Block)),.t (.slc (rw _ (cLs (cI .i64)) p0.Next))]] (l18_Great_s rw) r:=by
 refine fun_w lay_ok Tryz.call7 Tryz.func7 rfl ?_
 intro A W E Q R hE hR hf hQ;rcases W with ⟨ar,cm,conj,cv,sl,sc,ct,sa,ss,ll,_,_,_,_,mi,mx,_,_,_,_,_⟩
 rw [←hR]
 unfold l18_Great_g at h
 rw [q_cm hE,q_ll hE,←hR] at h
 cbv
 refine L_rgJ hE lay_ok h 1 (fun j1:Bool=>[(19,fB j1)]) (fun j1=>[]) (fun j1 h=>?_) (fun j1 h=>?_)<;>cbv
 · refine L_if hE h (fun h=>?_) (fun h=>?_)<;>cbv
   · cases h;(cbv;(try simp only [e_rnil hR]);repeat' (first | exact trivial | exact rfl | exact Or.inr trivial | apply And.intro))
   refine L_if hE h (fun h=>?_) (fun h=>?_)<;>cbv
   · cases h;(cbv;(try simp only [e_rnil hR]);repeat' (first | exact trivial | exact rfl | exact Or.inr trivial | apply And.intro))
   cases h;(cbv;(try simp only [e_rnil hR]);repeat' (first | exact trivial | exact rfl | exact Or.inr trivial | apply And.intro))
 refine L_if hE h (fun h=>?_) (fun h=>?_)<;>cbv
 · exact And.left (hQ _ _ _ rfl rfl (by cases h;subst hR;rfl))
 refine L_for hE lay_ok 1 (fun g:Int × Nat=>[(2,fB false),(3,fI .i64 g.1)]) (fun g=>[]) (fun g=>l18_Great_l1 p0 g.2 g.1=some r) (fun g=>g.2) (_,N) h ?_ ?_
 · (cbv;(try simp only [e_rnil hR]);repeat' (first | exact trivial | exact rfl | exact Or.inr trivial | apply And.intro))
 rintro ⟨v1,m1⟩ h Q1 hN1 hT1 hX1
 have h:l18_Great_l1 p0 m1 v1=some r:=h
 cases m1 with
 | zero=>exact nomatch (show (none:Option _)=some _ from h)
 | succ m1=>
 rw [l18_Great_l1] at h
 rw [q_ar hE,q_cm hE,q_ll hE,←hR] at h
 cbv
 refine L_if hE h (fun h=>?_) (fun h=>?_)<;>cbv
 · refine L_rowL hE hR h fun r2 h=>?_;cbv
   refine L_if hE h (fun h=>?_) (fun h=>?_)<;>cbv
   · refine hT1 _ ?_
     exact And.left (hQ _ _ _ rfl rfl (by cases h;subst hR;rfl))
   refine hN1 _ (_,m1) [] h (Nat.lt_succ_self _) trivial ?_;(cbv;(try simp only [e_rnil hR]);repeat' (first | exact trivial | exact rfl | exact Or.inr trivial | apply And.intro))
 refine hX1 _ _ ?_;cbv
 exact And.left (hQ _ _ _ rfl rfl (by cases h;subst hR;rfl))
theorem blocks_Right_w {N:Nat} {p0:List Int} {r:Bool} (h:blocks_Right_g N p0=some r):FunS Tryz.prog 57 [.t (.slc (rw _ (cI .i64) p0))] (blocks_Right_s rw) r:=by
 refine fun_w lay_ok Tryz.call57 Tryz.func57 rfl ?_
 intro A W E Q R hE hR hf hQ;rcases W with ⟨ar,cm,conj,cv,sl,sc,ct,sa,ss,ll,_,_,_,_,mi,mx,_,_,_,_,_⟩
 rw [←hR]
 unfold blocks_Right_g at h
 skip
 cbv
 refine L_for hE lay_ok 0 (fun g:Int × Int × Nat=>[(2,fB false),(3,fI .i64 g.1),(8,fI .i64 g.2.1)]) (fun g=>[]) (fun g=>blocks_Right_l1 p0 g.2.2 g.1 g.2.1=some r) (fun g=>g.2.2) (_,_,N) h ?_ ?_
 · (cbv;(try simp only [e_rnil hR]);repeat' (first | exact trivial | exact rfl | exact Or.inr trivial | apply And.intro))
 rintro ⟨v1,v2,m1⟩ h Q1 hN1 hT1 hX1
 have h:blocks_Right_l1 p0 m1 v1 v2=some r:=h
 cases m1 with
 | zero=>exact nomatch (show (none:Option _)=some _ from h)
 | succ m1=>
 rw [blocks_Right_l1] at h
 rw [q_ar hE,q_cm hE,q_ll hE,←hR] at h
 cbv
 refine L_if hE h (fun h=>?_) (fun h=>?_)<;>cbv
 · refine L_row hE hR h fun r3 h=>?_;cbv
   refine L_rgJ hE lay_ok h 0 (fun j3:Bool=>[(18,fB j3)]) (fun j3=>[]) (fun j3 h=>?_) (fun j3 h=>?_)<;>cbv
   · refine L_if hE h (fun h=>?_) (fun h=>?_)<;>cbv
     · cases h;(cbv;(try simp only [e_rnil hR]);repeat' (first | exact trivial | exact rfl | exact Or.inr trivial | apply And.intro))
     cases h;(cbv;(try simp only [e_rnil hR]);repeat' (first | exact trivial | exact rfl | exact Or.inr trivial | apply And.intro))
   refine L_if hE h (fun h=>?_) (fun h=>?_)<;>cbv
   · refine hT1 _ ?_
     exact And.left (hQ _ _ _ rfl rfl (by cases h;subst hR;rfl))
   refine L_cdJ hE lay_ok h 0 (fun j4:Int=>[(3,fI .i64 j4)]) (fun j4=>[]) (fun j4 h=>?_) (fun j4 h=>?_)<;>cbv
   · refine L_if hE h (fun h=>?_) (fun h=>?_)<;>cbv
     · cases h;(cbv;(try simp only [e_rnil hR]);repeat' (first | exact trivial | exact rfl | exact Or.inr trivial | apply And.intro))
     cases h;(cbv;(try simp only [e_rnil hR]);repeat' (first | exact trivial | exact rfl | exact Or.inr trivial | apply And.intro))
   refine hN1 _ (_,_,m1) [] h (Nat.lt_succ_self _) trivial ?_;(cbv;(try simp only [e_rnil hR]);repeat' (first | exact trivial | exact rfl | exact Or.inr trivial | apply And.intro))
 refine hX1 _ _ ?_;cbv
 exact And.left (hQ _ _ _ rfl rfl (by cases h;subst hR;rfl))
theorem blocks_Count_w {N:Nat} {p0:List Int} {r:Int} (h:blocks_Count_g N p0=some r):FunS Tryz.prog 25 [.t (.slc (rw _ (cI .i64) p0))] (blocks_Count_s rw) r:=by
 refine fun_w lay_ok Tryz.call25 Tryz.func25 rfl ?_
 intro A W E Q R hE hR hf hQ;rcases W with ⟨ar,cm,conj,cv,sl,sc,ct,sa,ss,ll,_,_,_,_,mi,mx,_,_,_,_,_⟩
 rw [←hR]
 unfold blocks_Count_g at h
 skip
 cbv
 refine L_call hE hR h (fun _ e=>blocks_Right_w e) (by subst hR;rfl) rfl fun a1 h=>?_;cbv
 refine L_if hE h (fun h=>?_) (fun h=>?_)<;>cbv
 · exact And.left (hQ _ _ _ rfl rfl (by cases h;subst hR;rfl))
 refine L_for hE lay_ok 0 (fun g:Int × Int × Nat=>[(3,fI .i64 g.1),(11,fI .i64 g.2.1)]) (fun g=>[]) (fun g=>blocks_Count_l1 p0 g.2.2 g.1 g.2.1=some r) (fun g=>g.2.2) (_,_,N) h ?_ ?_
 · (cbv;(try simp only [e_rnil hR]);repeat' (first | exact trivial | exact rfl | exact Or.inr trivial | apply And.intro))
 rintro ⟨v2,v3,m1⟩ h Q1 hN1 hT1 hX1
 have h:blocks_Count_l1 p0 m1 v2 v3=some r:=h
 cases m1 with
 | zero=>exact nomatch (show (none:Option _)=some _ from h)
 | succ m1=>
 rw [blocks_Count_l1] at h
 rw [q_ar hE,q_cm hE,q_ll hE,q_mx hE,←hR] at h
 cbv
 refine L_if hE h (fun h=>?_) (fun h=>?_)<;>cbv
 · refine L_row hE hR h fun r4 h=>?_;cbv
   refine hN1 _ (_,_,m1) [] h (Nat.lt_succ_self _) trivial ?_;(cbv;(try simp only [e_rnil hR]);repeat' (first | exact trivial | exact rfl | exact Or.inr trivial | apply And.intro))
 refine hX1 _ _ ?_;cbv
 exact And.left (hQ _ _ _ rfl rfl (by cases h;subst hR;rfl))
theorem dfa_Right_w {N:Nat} {p0:GDfa} {r:Bool} (h:dfa_Right_g N p0=some r):FunS Tryz.prog 9 [.agg [fI .i64 p0.Start,.t (.slc (rw _ cB p0.Final)),.t (.slc (rw _ (cI .i64) p0.Block)),.t (.slc (rw _ (cLs (cI .i64)) p0.Next))]] (dfa_Right_s rw) r:=by
 refine fun_w lay_ok Tryz.call9 Tryz.func9 rfl ?_
 intro A W E Q R hE hR hf hQ;rcases W with ⟨ar,cm,conj,cv,sl,sc,ct,sa,ss,ll,_,_,_,_,mi,mx,_,_,_,_,_⟩
 rw [←hR]
 unfold dfa_Right_g at h
 rw [q_cm hE,q_ll hE,←hR] at h
 cbv
 refine L_rgJ hE lay_ok h 2 (fun j1:Bool=>[(33,fB j1)]) (fun j1=>[]) (fun j1 h=>?_) (fun j1 h=>?_)<;>cbv
 · refine L_if hE h (fun h=>?_) (fun h=>?_)<;>cbv
   · cases h;(cbv;(try simp only [e_rnil hR]);repeat' (first | exact trivial | exact rfl | exact Or.inr trivial | apply And.intro))
   refine L_if hE h (fun h=>?_) (fun h=>?_)<;>cbv
   · cases h;(cbv;(try simp only [e_rnil hR]);repeat' (first | exact trivial | exact rfl | exact Or.inr trivial | apply And.intro))
   refine L_if hE h (fun h=>?_) (fun h=>?_)<;>cbv
   · cases h;(cbv;(try simp only [e_rnil hR]);repeat' (first | exact trivial | exact rfl | exact Or.inr trivial | apply And.intro))
   refine L_if hE h (fun h=>?_) (fun h=>?_)<;>cbv
   · cases h;(cbv;(try simp only [e_rnil hR]);repeat' (first | exact trivial | exact rfl | exact Or.inr trivial | apply And.intro))
   cases h;(cbv;(try simp only [e_rnil hR]);repeat' (first | exact trivial | exact rfl | exact Or.inr trivial | apply And.intro))
 refine L_if hE h (fun h=>?_) (fun h=>?_)<;>cbv
 · exact And.left (hQ _ _ _ rfl rfl (by cases h;subst hR;rfl))
 refine L_call hE hR h (fun _ e=>blocks_Count_w e) (by subst hR;rfl) rfl fun a1 h=>?_;cbv
 refine L_for hE lay_ok 2 (fun g:Int × Nat=>[(2,fB false),(40,fI .i64 g.1)]) (fun g=>[]) (fun g=>dfa_Right_l1 N p0 a1 g.2 g.1=some r) (fun g=>g.2) (_,N) h ?_ ?_
 · (cbv;(try simp only [e_rnil hR]);repeat' (first | exact trivial | exact rfl | exact Or.inr trivial | apply And.intro))
 rintro ⟨v2,m1⟩ h Q1 hN1 hT1 hX1
 have h:dfa_Right_l1 N p0 a1 m1 v2=some r:=h
 cases m1 with
 | zero=>exact nomatch (show (none:Option _)=some _ from h)
 | succ m1=>
 rw [dfa_Right_l1] at h
 rw [q_ar hE,q_cm hE,q_ll hE,←hR] at h
 cbv
 refine L_if hE h (fun h=>?_) (fun h=>?_)<;>cbv
 · refine L_rowL hE hR h fun r3 h=>?_;cbv
   refine L_rgJ hE lay_ok h 2 (fun j7:Bool=>[(52,fB j7)]) (fun j7=>[]) (fun j7 h=>?_) (fun j7 h=>?_)<;>cbv
   · refine L_if hE h (fun h=>?_) (fun h=>?_)<;>cbv
     · cases h;(cbv;(try simp only [e_rnil hR]);repeat' (first | exact trivial | exact rfl | exact Or.inr trivial | apply And.intro))
     refine L_keep hE lay_ok Tryz.call26 Tryz.func26 rfl ?_
     intro A2 E2 Q2 hE2 hf2 hQ2;cbv
     refine L_keep hE2 lay_ok Tryz.call58 Tryz.func58 rfl ?_
     intro A3 E3 Q3 hE3 hf3 hQ3;cbv
     refine L_for hE3 lay_ok 2 (fun g:Int × Nat=>[(4,fI .i64 0),(8,fI .i64 g.1)]) (fun g=>[]) (fun g=>dfa_Right_l4 p0 r3 g.2 g.1=some j7) (fun g=>g.2) (_,N) h ?_ ?_
     · (cbv;(try simp only [e_rnil hR]);repeat' (first | exact trivial | exact rfl | exact Or.inr trivial | apply And.intro))
     rintro ⟨v4,m4⟩ h Q4 hN4 hT4 hX4
     have h:dfa_Right_l4 p0 r3 m4 v4=some j7:=h
     cases m4 with
     | zero=>exact nomatch (show (none:Option _)=some _ from h)
     | succ m4=>
     rw [dfa_Right_l4] at h
     rw [q_ar hE,q_cm hE,q_ll hE,←hR] at h
     cbv
     refine L_if hE3 h (fun h=>?_) (fun h=>?_)<;>cbv
     · refine L_row hE3 hR h fun r5 h=>?_;cbv
       refine L_keep hE3 lay_ok Tryz.call27 Tryz.func27 rfl ?_
       intro A5 E5 Q5 hE5 hf5 hQ5;cbv
       refine L_rgJ hE5 lay_ok h 2 (fun j6:Bool=>[(3,fB j6)]) (fun j6=>[]) (fun j6 h=>?_) (fun j6 h=>?_)<;>cbv
       · refine L_if hE5 h (fun h=>?_) (fun h=>?_)<;>cbv
         · cases h;(cbv;(try simp only [e_rnil hR]);repeat' (first | exact trivial | exact rfl | exact Or.inr trivial | apply And.intro))
         cases h;(cbv;(try simp only [e_rnil hR]);repeat' (first | exact trivial | exact rfl | exact Or.inr trivial | apply And.intro))
       refine And.left (hQ5 _ _ rfl ?_);cbv
       refine L_if hE3 h (fun h=>?_) (fun h=>?_)<;>cbv
       · refine hT4 _ ?_
         refine And.left (hQ3 _ _ rfl ?_);cbv
         refine And.left (hQ2 _ _ rfl ?_);cbv
         cases h;(cbv;(try simp only [e_rnil hR]);repeat' (first | exact trivial | exact rfl | exact Or.inr trivial | apply And.intro))
       refine hN4 _ (_,m4) [] h (Nat.lt_succ_self _) trivial ?_;(cbv;(try simp only [e_rnil hR]);repeat' (first | exact trivial | exact rfl | exact Or.inr trivial | apply And.intro))
     refine hX4 _ _ ?_;cbv
     refine And.left (hQ3 _ _ rfl ?_);cbv
     refine And.left (hQ2 _ _ rfl ?_);cbv
     cases h;(cbv;(try simp only [e_rnil hR]);repeat' (first | exact trivial | exact rfl | exact Or.inr trivial | apply And.intro))
   refine L_if hE h (fun h=>?_) (fun h=>?_)<;>cbv
   · refine hT1 _ ?_
     exact And.left (hQ _ _ _ rfl rfl (by cases h;subst hR;rfl))
   refine hN1 _ (_,m1) [] h (Nat.lt_succ_self _) trivial ?_;(cbv;(try simp only [e_rnil hR]);repeat' (first | exact trivial | exact rfl | exact Or.inr trivial | apply And.intro))
 refine hX1 _ _ ?_;cbv
 exact And.left (hQ _ _ _ rfl rfl (by cases h;subst hR;rfl))
end Gn
end Go.Proofs.YtjhbgkakhaonaaaGreatDoor
namespace Go.Proofs.YtjhbgkakhaonaaaGreatDoor
open Go Go.RowKit
open Ab Sh
namespace Gn
theorem dfa_State_w {N:Nat} {p0:GDfa} {p1:ByteArray} {r:Int} (h:dfa_State_g N p0 p1=some r):FunS Tryz.prog 11 [.agg [fI .i64 p0.Start,.t (.slc (rw _ cB p0.Final)),.t (.slc (rw _ (cI .i64) p0.Block)),.t (.slc (rw _ (cLs (cI .i64)) p0.Next))],fS p1] (dfa_State_s rw) r:=by
 refine fun_w lay_ok Tryz.call11 Tryz.func11 rfl ?_
 intro A W E Q R hE hR hf hQ;rcases W with ⟨ar,cm,conj,cv,sl,sc,ct,sa,ss,ll,_,_,_,_,mi,mx,_,_,_,_,_⟩
 rw [←hR]
 unfold dfa_State_g at h
 skip
 cbv
 refine L_call hE hR h (fun _ e=>dfa_Right_w e) (by subst hR;rfl) rfl fun a1 h=>?_;cbv
 refine L_if hE h (fun h=>?_) (fun h=>?_)<;>cbv
 · exact And.left (hQ _ _ _ rfl rfl (by cases h;subst hR;rfl))
 refine L_for hE lay_ok 1 (fun g:Int × Int × Nat=>[(5,fI .i64 g.1),(14,fI .i64 g.2.1)]) (fun g=>[]) (fun g=>dfa_State_l1 p0 p1 g.2.2 g.1 g.2.1=some r) (fun g=>g.2.2) (_,_,N) h ?_ ?_
 · (cbv;(try simp only [e_rnil hR]);repeat' (first | exact trivial | exact rfl | exact Or.inr trivial | apply And.intro))
 rintro ⟨v2,v3,m1⟩ h Q1 hN1 hT1 hX1
 have h:dfa_State_l1 p0 p1 m1 v2 v3=some r:=h
 cases m1 with
 | zero=>exact nomatch (show (none:Option _)=some _ from h)
 | succ m1=>
 rw [dfa_State_l1] at h
 rw [q_ar hE,q_cm hE,q_sl hE,q_sa hE] at h
 cbv
 refine L_if hE h (fun h=>?_) (fun h=>?_)<;>cbv
 · refine L_whole hE lay_ok (by kernel_rfl) (by kernel_rfl) ?_;cbv
   refine L_rowL hE hR h fun r4 h=>?_;cbv
   refine L_sin hE h fun h=>?_
   refine L_row hE hR h fun r5 h=>?_;cbv
   refine L_row hE hR h fun r6 h=>?_;cbv
   refine hN1 _ (_,_,m1) [] h (Nat.lt_succ_self _) trivial ?_;(cbv;(try simp only [e_rnil hR]);repeat' (first | exact trivial | exact rfl | exact Or.inr trivial | apply And.intro))
 refine hX1 _ _ ?_;cbv
 exact And.left (hQ _ _ _ rfl rfl (by cases h;subst hR;rfl))
theorem dfa_Run_w {N:Nat} {p0:GDfa} {p1:ByteArray} {r:Bool} (h:dfa_Run_g N p0 p1=some r):FunS Tryz.prog 13 [.agg [fI .i64 p0.Start,.t (.slc (rw _ cB p0.Final)),.t (.slc (rw _ (cI .i64) p0.Block)),.t (.slc (rw _ (cLs (cI .i64)) p0.Next))],fS p1] (dfa_Run_s rw) r:=by
 refine fun_w lay_ok Tryz.call13 Tryz.func13 rfl ?_
 intro A W E Q R hE hR hf hQ;rcases W with ⟨ar,cm,conj,cv,sl,sc,ct,sa,ss,ll,_,_,_,_,mi,mx,_,_,_,_,_⟩
 rw [←hR]
 unfold dfa_Run_g at h
 rw [q_cm hE] at h
 cbv
 refine L_call hE hR h (fun _ e=>dfa_State_w e) (by subst hR;rfl) rfl fun a1 h=>?_;cbv
 refine L_rgJ hE lay_ok h 1 (fun j1:Bool=>[(4,fB j1)]) (fun j1=>[]) (fun j1 h=>?_) (fun j1 h=>?_)<;>cbv
 · refine L_if hE h (fun h=>?_) (fun h=>?_)<;>cbv
   · refine L_row hE hR h fun r2 h=>?_;cbv
     cases h;(cbv;(try simp only [e_rnil hR]);repeat' (first | exact trivial | exact rfl | exact Or.inr trivial | apply And.intro))
   cases h;(cbv;(try simp only [e_rnil hR]);repeat' (first | exact trivial | exact rfl | exact Or.inr trivial | apply And.intro))
 exact And.left (hQ _ _ _ rfl rfl (by cases h;subst hR;rfl))
theorem spots_rising_w {N:Nat} {p0:List Int} {p1:Int} {r:Bool} (h:spots_rising_g N p0 p1=some r):FunS Tryz.prog 60 [.t (.slc (rw _ (cI .i64) p0)),fI .i64 p1] (spots_rising_s rw) r:=by
 refine fun_w lay_ok Tryz.call60 Tryz.func60 rfl ?_
 intro A W E Q R hE hR hf hQ;rcases W with ⟨ar,cm,conj,cv,sl,sc,ct,sa,ss,ll,_,_,_,_,mi,mx,_,_,_,_,_⟩
 rw [←hR]
 unfold spots_rising_g at h
 skip
 cbv
 refine L_for hE lay_ok 0 (fun g:Int × Int × Nat=>[(4,fB false),(5,fI .i64 g.1),(10,fI .i64 g.2.1)]) (fun g=>[]) (fun g=>spots_rising_l1 p0 p1 g.2.2 g.1 g.2.1=some r) (fun g=>g.2.2) (_,_,N) h ?_ ?_
 · (cbv;(try simp only [e_rnil hR]);repeat' (first | exact trivial | exact rfl | exact Or.inr trivial | apply And.intro))
 rintro ⟨v1,v2,m1⟩ h Q1 hN1 hT1 hX1
 have h:spots_rising_l1 p0 p1 m1 v1 v2=some r:=h
 cases m1 with
 | zero=>exact nomatch (show (none:Option _)=some _ from h)
 | succ m1=>
 rw [spots_rising_l1] at h
 rw [q_ar hE,q_cm hE,q_ll hE,←hR] at h
 cbv
 refine L_if hE h (fun h=>?_) (fun h=>?_)<;>cbv
 · refine L_row hE hR h fun r3 h=>?_;cbv
   refine L_rgJ hE lay_ok h 0 (fun j2:Bool=>[(21,fB j2)]) (fun j2=>[]) (fun j2 h=>?_) (fun j2 h=>?_)<;>cbv
   · refine L_if hE h (fun h=>?_) (fun h=>?_)<;>cbv
     · cases h;(cbv;(try simp only [e_rnil hR]);repeat' (first | exact trivial | exact rfl | exact Or.inr trivial | apply And.intro))
     cases h;(cbv;(try simp only [e_rnil hR]);repeat' (first | exact trivial | exact rfl | exact Or.inr trivial | apply And.intro))
   refine L_if hE h (fun h=>?_) (fun h=>?_)<;>cbv
   · refine hT1 _ ?_
     exact And.left (hQ _ _ _ rfl rfl (by cases h;subst hR;rfl))
   refine hN1 _ (_,_,m1) [] h (Nat.lt_succ_self _) trivial ?_;(cbv;(try simp only [e_rnil hR]);repeat' (first | exact trivial | exact rfl | exact Or.inr trivial | apply And.intro))
 refine hX1 _ _ ?_;cbv
 exact And.left (hQ _ _ _ rfl rfl (by cases h;subst hR;rfl))
theorem spots_Right_w {N:Nat} {p0:GSpots} {r:Bool} (h:spots_Right_g N p0=some r):FunS Tryz.prog 29 [.agg [.t (.slc (rw _ cSet p0.Sets)),fB p0.None,.t (.slc (rw _ (cI .i64) p0.First)),.t (.slc (rw _ (cI .i64) p0.Last)),.t (.slc (rw _ (cLs (cI .i64)) p0.Next))]] (spots_Right_s rw) r:=by
 refine fun_w lay_ok Tryz.call29 Tryz.func29 rfl ?_
 intro A W E Q R hE hR hf hQ;rcases W with ⟨ar,cm,conj,cv,sl,sc,ct,sa,ss,ll,_,_,_,_,mi,mx,_,_,_,_,_⟩
 rw [←hR]
 unfold spots_Right_g at h
 rw [q_cm hE,q_ll hE,←hR] at h
 cbv
 refine L_rgJ hE lay_ok h 2 (fun j1:Bool=>[(29,fB j1)]) (fun j1=>[]) (fun j1 h=>?_) (fun j1 h=>?_)<;>cbv
 · refine L_if hE h (fun h=>?_) (fun h=>?_)<;>cbv
   · cases h;(cbv;(try simp only [e_rnil hR]);repeat' (first | exact trivial | exact rfl | exact Or.inr trivial | apply And.intro))
   refine L_if hE h (fun h=>?_) (fun h=>?_)<;>cbv
   · cases h;(cbv;(try simp only [e_rnil hR]);repeat' (first | exact trivial | exact rfl | exact Or.inr trivial | apply And.intro))
   refine L_call hE hR h (fun _ e=>spots_rising_w e) (by subst hR;rfl) rfl fun a1 h=>?_;cbv
   refine L_if hE h (fun h=>?_) (fun h=>?_)<;>cbv
   · cases h;(cbv;(try simp only [e_rnil hR]);repeat' (first | exact trivial | exact rfl | exact Or.inr trivial | apply And.intro))
   refine L_call hE hR h (fun _ e=>spots_rising_w e) (by subst hR;rfl) rfl fun a2 h=>?_;cbv
   cases h;(cbv;(try simp only [e_rnil hR]);repeat' (first | exact trivial | exact rfl | exact Or.inr trivial | apply And.intro))
 refine L_if hE h (fun h=>?_) (fun h=>?_)<;>cbv
 · exact And.left (hQ _ _ _ rfl rfl (by cases h;subst hR;rfl))
 refine L_keep hE lay_ok Tryz.call61 Tryz.func61 rfl ?_
 intro A1 E1 Q1 hE1 hf1 hQ1;cbv
 refine L_keep hE1 lay_ok Tryz.call82 Tryz.func82 rfl ?_
 intro A2 E2 Q2 hE2 hf2 hQ2;cbv
 refine L_for hE2 lay_ok 2 (fun g:Int × Nat=>[(4,fI .i64 0),(8,fI .i64 g.1)]) (fun g=>[]) (fun g=>spots_Right_l3 N p0 g.2 g.1=some r) (fun g=>g.2) (_,N) h ?_ ?_
 · (cbv;(try simp only [e_rnil hR]);repeat' (first | exact trivial | exact rfl | exact Or.inr trivial | apply And.intro))
 rintro ⟨v3,m3⟩ h Q3 hN3 hT3 hX3
 have h:spots_Right_l3 N p0 m3 v3=some r:=h
 cases m3 with
 | zero=>exact nomatch (show (none:Option _)=some _ from h)
 | succ m3=>
 rw [spots_Right_l3] at h
 rw [q_ar hE,q_cm hE,q_ll hE,←hR] at h
 cbv
 refine L_if hE2 h (fun h=>?_) (fun h=>?_)<;>cbv
 · refine L_rowL hE2 hR h fun r4 h=>?_;cbv
   refine L_keep hE2 lay_ok Tryz.call62 Tryz.func62 rfl ?_
   intro A4 E4 Q4 hE4 hf4 hQ4;cbv
   refine L_call hE4 hR h (fun _ e=>spots_rising_w e) (by subst hR;rfl) rfl fun a5 h=>?_;cbv
   refine And.left (hQ4 _ _ rfl ?_);cbv
   refine L_if hE2 h (fun h=>?_) (fun h=>?_)<;>cbv
   · refine hT3 _ ?_
     refine And.left (hQ2 _ _ rfl ?_);cbv
     refine And.left (hQ1 _ _ rfl ?_);cbv
     exact And.left (hQ _ _ _ rfl rfl (by cases h;subst hR;rfl))
   refine hN3 _ (_,m3) [] h (Nat.lt_succ_self _) trivial ?_;(cbv;(try simp only [e_rnil hR]);repeat' (first | exact trivial | exact rfl | exact Or.inr trivial | apply And.intro))
 refine hX3 _ _ ?_;cbv
 refine And.left (hQ2 _ _ rfl ?_);cbv
 refine And.left (hQ1 _ _ rfl ?_);cbv
 exact And.left (hQ _ _ _ rfl rfl (by cases h;subst hR;rfl))
end Gn
end Go.Proofs.YtjhbgkakhaonaaaGreatDoor
namespace Go.Proofs.YtjhbgkakhaonaaaGreatDoor
open Go Go.RowKit
open Ab Sh
namespace Gn
theorem blocks_Of_w {N:Nat} {p0:List CSet} {r:List Int} (h:blocks_Of_g N p0=some r):FunS Tryz.prog 30 [.t (.slc (rw _ cSet p0))] (blocks_Of_s rw) r:=by
 refine fun_w lay_ok Tryz.call30 Tryz.func30 rfl ?_
 intro A W E Q R hE hR hf hQ;rcases W with ⟨ar,cm,conj,cv,sl,sc,ct,sa,ss,ll,_,_,_,_,mi,mx,_,_,_,_,_⟩
 rw [←hR]
 unfold blocks_Of_g at h
 skip
 cbv
 refine L_zro hE hR h (by decide) fun l1 e h=>?_;cbv at e;rw [e];clear e
 refine L_for hE lay_ok 2 (fun g:Int ×(List Int)× Nat=>[(9,fI .i64 g.1)]) (fun g=>[(0,.list 3 1 (R _ (cI .i64) g.2.1)),(1,.box 23 [.lst 0])]) (fun g=>blocks_Of_l1 N p0 g.2.2 g.1 g.2.1=some r) (fun g=>g.2.2) (_,_,N) h ?_ ?_
 · (cbv;(try simp only [e_rnil hR]);repeat' (first | exact trivial | exact rfl | exact Or.inr trivial | apply And.intro))
 rintro ⟨v2,v3,m1⟩ h Q1 hN1 hT1 hX1
 have h:blocks_Of_l1 N p0 m1 v2 v3=some r:=h
 cases m1 with
 | zero=>exact nomatch (show (none:Option _)=some _ from h)
 | succ m1=>
 rw [blocks_Of_l1] at h
 rw [q_cm hE,q_ll hE,←hR] at h
 cbv
 refine L_if hE h (fun h=>?_) (fun h=>?_)<;>cbv
 · refine L_row hE hR h fun r4 h=>?_;cbv
   refine L_keep hE lay_ok Tryz.call63 Tryz.func63 rfl ?_
   intro A2 E2 Q2 hE2 hf2 hQ2;cbv
   refine L_zro hE2 hR h (by decide) fun l5 e h=>?_;cbv at e;rw [e];clear e
   refine L_for hE2 lay_ok 5 (fun g:Int ×(List Int)×(List ((Int × Int)× Int))× Nat=>[(3,.lst 3),(9,.lst 3),(11,.lst 3),(13,fI .i64 g.1)]) (fun g=>[(3,.list 3 1 (R _ (cI .i64) g.2.1)),(4,.map 2 (R _ (cMp kP) g.2.2.1))]) (fun g=>blocks_Of_l3 (blocks_Of_l1 N p0 m1) v2 v3 r4 l5 g.2.2.2 g.1 g.2.1 g.2.2.1=some r) (fun g=>g.2.2.2) (_,_,_,N) h ?_ ?_
   · (cbv;(try simp only [e_rnil hR]);repeat' (first | exact trivial | exact rfl | exact Or.inr trivial | apply And.intro))
   rintro ⟨v6,v7,v8,m3⟩ h Q3 hN3 hT3 hX3
   have h:blocks_Of_l3 (blocks_Of_l1 N p0 m1) v2 v3 r4 l5 m3 v6 v7 v8=some r:=h
   cases m3 with
   | zero=>exact nomatch (show (none:Option _)=some _ from h)
   | succ m3=>
   rw [blocks_Of_l3] at h
   rw [q_ar hE,q_cm hE,q_cv hE,q_ll hE,←hR] at h
   cbv
   refine L_if hE2 h (fun h=>?_) (fun h=>?_)<;>cbv
   · refine L_keep hE2 lay_ok Tryz.call64 Tryz.func64 rfl ?_
     intro A4 E4 Q4 hE4 hf4 hQ4;cbv
     refine L_call hE4 hR h (fun _ e=>charset_Has_w e) rfl rfl fun a9 h=>?_;cbv
     refine L_if hE4 h (fun h=>?_) (fun h=>?_)<;>cbv
     · refine L_row hE4 hR h fun r10 h=>?_;cbv
       refine L_row hE4 hR h fun r11 h=>?_;cbv
       refine And.left (hQ4 _ _ rfl ?_);cbv
       refine L_mget hE2 hR kP_inj h rfl (fun n12 h=>?_) (fun h=>?_)<;>cbv
       · refine L_cdJ hE2 lay_ok h 7 (fun j21:Int ×(List ((Int × Int)× Int))=>[(7,fI .i64 j21.1)]) (fun j21=>[(4,.map 2 (R _ (cMp kP) j21.2))]) (fun j21 h=>?_) (fun j21 h=>?_)<;>cbv
         · refine L_if hE2 h (fun h=>?_) (fun h=>?_)<;>cbv
           · refine L_mput hE2 hR kP_inj h rfl fun m13 e h=>?_;cbv at e;rw [e];clear e
             cases h;(cbv;(try simp only [e_rnil hR]);repeat' (first | exact trivial | exact rfl | exact Or.inr trivial | apply And.intro))
           cases h;(cbv;(try simp only [e_rnil hR]);repeat' (first | exact trivial | exact rfl | exact Or.inr trivial | apply And.intro))
         refine L_row hE2 hR h fun r14 h=>?_;cbv
         refine L_row hE2 hR h fun r15 h=>?_;cbv
         refine L_put hE2 hR h fun l16 e h=>?_;cbv at e;rw [e];clear e
         refine hN3 _ (_,_,_,m3) [] h (Nat.lt_succ_self _) trivial ?_;(cbv;(try simp only [e_rnil hR]);repeat' (first | exact trivial | exact rfl | exact Or.inr trivial | apply And.intro))
       refine L_cdJ hE2 lay_ok h 7 (fun j22:Int ×(List ((Int × Int)× Int))=>[(7,fI .i64 j22.1)]) (fun j22=>[(4,.map 2 (R _ (cMp kP) j22.2))]) (fun j22 h=>?_) (fun j22 h=>?_)<;>cbv
       · refine L_if hE2 h (fun h=>?_) (fun h=>?_)<;>cbv
         · refine L_mput hE2 hR kP_inj h rfl fun m17 e h=>?_;cbv at e;rw [e];clear e
           cases h;(cbv;(try simp only [e_rnil hR]);repeat' (first | exact trivial | exact rfl | exact Or.inr trivial | apply And.intro))
         cases h;(cbv;(try simp only [e_rnil hR]);repeat' (first | exact trivial | exact rfl | exact Or.inr trivial | apply And.intro))
       refine L_row hE2 hR h fun r18 h=>?_;cbv
       refine L_row hE2 hR h fun r19 h=>?_;cbv
       refine L_put hE2 hR h fun l20 e h=>?_;cbv at e;rw [e];clear e
       refine hN3 _ (_,_,_,m3) [] h (Nat.lt_succ_self _) trivial ?_;(cbv;(try simp only [e_rnil hR]);repeat' (first | exact trivial | exact rfl | exact Or.inr trivial | apply And.intro))
     refine L_row hE4 hR h fun r21 h=>?_;cbv
     refine L_row hE4 hR h fun r22 h=>?_;cbv
     refine And.left (hQ4 _ _ rfl ?_);cbv
     refine L_mget hE2 hR kP_inj h rfl (fun n23 h=>?_) (fun h=>?_)<;>cbv
     · refine L_cdJ hE2 lay_ok h 7 (fun j23:Int ×(List ((Int × Int)× Int))=>[(7,fI .i64 j23.1)]) (fun j23=>[(4,.map 2 (R _ (cMp kP) j23.2))]) (fun j23 h=>?_) (fun j23 h=>?_)<;>cbv
       · refine L_if hE2 h (fun h=>?_) (fun h=>?_)<;>cbv
         · refine L_mput hE2 hR kP_inj h rfl fun m24 e h=>?_;cbv at e;rw [e];clear e
           cases h;(cbv;(try simp only [e_rnil hR]);repeat' (first | exact trivial | exact rfl | exact Or.inr trivial | apply And.intro))
         cases h;(cbv;(try simp only [e_rnil hR]);repeat' (first | exact trivial | exact rfl | exact Or.inr trivial | apply And.intro))
       refine L_row hE2 hR h fun r25 h=>?_;cbv
       refine L_row hE2 hR h fun r26 h=>?_;cbv
       refine L_put hE2 hR h fun l27 e h=>?_;cbv at e;rw [e];clear e
       refine hN3 _ (_,_,_,m3) [] h (Nat.lt_succ_self _) trivial ?_;(cbv;(try simp only [e_rnil hR]);repeat' (first | exact trivial | exact rfl | exact Or.inr trivial | apply And.intro))
     refine L_cdJ hE2 lay_ok h 7 (fun j24:Int ×(List ((Int × Int)× Int))=>[(7,fI .i64 j24.1)]) (fun j24=>[(4,.map 2 (R _ (cMp kP) j24.2))]) (fun j24 h=>?_) (fun j24 h=>?_)<;>cbv
     · refine L_if hE2 h (fun h=>?_) (fun h=>?_)<;>cbv
       · refine L_mput hE2 hR kP_inj h rfl fun m28 e h=>?_;cbv at e;rw [e];clear e
         cases h;(cbv;(try simp only [e_rnil hR]);repeat' (first | exact trivial | exact rfl | exact Or.inr trivial | apply And.intro))
       cases h;(cbv;(try simp only [e_rnil hR]);repeat' (first | exact trivial | exact rfl | exact Or.inr trivial | apply And.intro))
     refine L_row hE2 hR h fun r29 h=>?_;cbv
     refine L_row hE2 hR h fun r30 h=>?_;cbv
     refine L_put hE2 hR h fun l31 e h=>?_;cbv at e;rw [e];clear e
     refine hN3 _ (_,_,_,m3) [] h (Nat.lt_succ_self _) trivial ?_;(cbv;(try simp only [e_rnil hR]);repeat' (first | exact trivial | exact rfl | exact Or.inr trivial | apply And.intro))
   refine hX3 _ _ ?_;cbv
   refine And.left (hQ2 _ _ rfl ?_);cbv
   refine hN1 _ (_,_,m1) [(0,3)] h (Nat.lt_succ_self _) ⟨hf _,hf _,trivial⟩ ?_;(cbv;(try simp only [e_rnil hR]);repeat' (first | exact trivial | exact rfl | exact Or.inr trivial | apply And.intro))
 refine hX1 _ _ ?_;cbv
 exact And.left (hQ _ _ _ rfl rfl (by cases h;subst hR;rfl))
theorem blocks_First_w {N:Nat} {p0:List Int} {p1:Int} {r:Int} (h:blocks_First_g N p0 p1=some r):FunS Tryz.prog 31 [.t (.slc (rw _ (cI .i64) p0)),fI .i64 p1] (blocks_First_s rw) r:=by
 refine fun_w lay_ok Tryz.call31 Tryz.func31 rfl ?_
 intro A W E Q R hE hR hf hQ;rcases W with ⟨ar,cm,conj,cv,sl,sc,ct,sa,ss,ll,_,_,_,_,mi,mx,_,_,_,_,_⟩
 rw [←hR]
 unfold blocks_First_g at h
 skip
 cbv
 refine L_call hE hR h (fun _ e=>blocks_Right_w e) (by subst hR;rfl) rfl fun a1 h=>?_;cbv
 refine L_if hE h (fun h=>?_) (fun h=>?_)<;>cbv
 · exact And.left (hQ _ _ _ rfl rfl (by cases h;subst hR;rfl))
 refine L_for hE lay_ok 0 (fun g:Int × Nat=>[(4,fI .i64 0),(12,fI .i64 g.1)]) (fun g=>[]) (fun g=>blocks_First_l1 p0 p1 g.2 g.1=some r) (fun g=>g.2) (_,N) h ?_ ?_
 · (cbv;(try simp only [e_rnil hR]);repeat' (first | exact trivial | exact rfl | exact Or.inr trivial | apply And.intro))
 rintro ⟨v2,m1⟩ h Q1 hN1 hT1 hX1
 have h:blocks_First_l1 p0 p1 m1 v2=some r:=h
 cases m1 with
 | zero=>exact nomatch (show (none:Option _)=some _ from h)
 | succ m1=>
 rw [blocks_First_l1] at h
 rw [q_ar hE,q_cm hE,q_ll hE,←hR] at h
 cbv
 refine L_if hE h (fun h=>?_) (fun h=>?_)<;>cbv
 · refine L_row hE hR h fun r3 h=>?_;cbv
   refine L_if hE h (fun h=>?_) (fun h=>?_)<;>cbv
   · refine hT1 _ ?_
     exact And.left (hQ _ _ _ rfl rfl (by cases h;subst hR;rfl))
   refine hN1 _ (_,m1) [] h (Nat.lt_succ_self _) trivial ?_;(cbv;(try simp only [e_rnil hR]);repeat' (first | exact trivial | exact rfl | exact Or.inr trivial | apply And.intro))
 refine hX1 _ _ ?_;cbv
 exact And.left (hQ _ _ _ rfl rfl (by cases h;subst hR;rfl))
theorem dfa_builder_add_w {p1:List Int} {p2:Bool} {s0:Gdfa_builder} {r:Gdfa_builder} (h:dfa_builder_add_g p1 p2 s0=some r):HFun Tryz.prog 33 [.ptr 0 0,.t (.slc (rw _ (cI .i64) p1)),fB p2] [.box 64 [.t (.slc (rw _ cSet s0.p.Sets)),fB s0.p.None,.t (.slc (rw _ (cI .i64) s0.p.First)),.t (.slc (rw _ (cI .i64) s0.p.Last)),.t (.slc (rw _ (cLs (cI .i64)) s0.p.Next)),.t (.slc (rw _ (cLs (cI .i64)) s0.in_)),.mp 1,.lst 2,fI .i64 s0.out.Start,.lst 3,.t (.slc (rw _ (cI .i64) s0.out.Block)),.lst 4],.map 0 (rw _ (cMp Key.s) s0.seen),.list 23 1 (rw _ (cLs (cI .i64)) s0.sets),.list 4 1 (rw _ cB s0.out.Final),.list 23 1 (rw _ (cLs (cI .i64)) s0.out.Next)] (dfa_builder_add_s rw r) (dfa_builder_add_t rw r):=by
 refine hfun_w lay_ok Tryz.call33 Tryz.func33 rfl [true,false,false,false,false] rfl ?_
 intro A W E Q R hE hR hf hQ;rcases W with ⟨ar,cm,conj,cv,sl,sc,ct,sa,ss,ll,_,_,_,_,mi,mx,_,_,_,_,_⟩
 rw [←hR]
 unfold dfa_builder_add_g at h
 skip
 cbv
 refine L_appL hE hR h (by subst hR;rfl) (hf _ rfl) (fun _=>rfl) (by decide) fun l1 e h=>?_;cbv at e;rw [e];clear e
 refine L_appL hE hR h (by subst hR;rfl) (hf _ rfl) (fun _=>rfl) (by decide) fun l2 e h=>?_;cbv at e;rw [e];clear e
 refine L_appL hE hR h rfl (hf _ rfl) (fun _=>rfl) (by decide) fun l3 e h=>?_;cbv at e;rw [e];clear e
 exact And.right (hQ _ _ _ _ rfl rfl rfl (by cases h;subst hR;rfl) (by cases h;subst hR;rfl))
theorem slices_Index_152_w {N:Nat} {p0:List Int} {p1:Int} {r:Int} (h:slices_Index_152_g N p0 p1=some r):FunS Tryz.prog 76 [.t (.slc (rw _ (cI .i64) p0)),fI .i64 p1] (slices_Index_152_s rw) r:=by
 refine fun_w lay_ok Tryz.call76 Tryz.func76 rfl ?_
 intro A W E Q R hE hR hf hQ;rcases W with ⟨ar,cm,conj,cv,sl,sc,ct,sa,ss,ll,_,_,_,_,mi,mx,_,_,_,_,_⟩
 rw [←hR]
 unfold slices_Index_152_g at h
 skip
 cbv
 refine L_for hE lay_ok 0 (fun g:Int × Nat=>[(4,fI .i64 0),(8,fI .i64 g.1)]) (fun g=>[]) (fun g=>slices_Index_152_l1 p0 p1 g.2 g.1=some r) (fun g=>g.2) (_,N) h ?_ ?_
 · (cbv;(try simp only [e_rnil hR]);repeat' (first | exact trivial | exact rfl | exact Or.inr trivial | apply And.intro))
 rintro ⟨v1,m1⟩ h Q1 hN1 hT1 hX1
 have h:slices_Index_152_l1 p0 p1 m1 v1=some r:=h
 cases m1 with
 | zero=>exact nomatch (show (none:Option _)=some _ from h)
 | succ m1=>
 rw [slices_Index_152_l1] at h
 rw [q_ar hE,q_cm hE,q_ll hE,←hR] at h
 cbv
 refine L_if hE h (fun h=>?_) (fun h=>?_)<;>cbv
 · refine L_row hE hR h fun r2 h=>?_;cbv
   refine L_if hE h (fun h=>?_) (fun h=>?_)<;>cbv
   · refine hT1 _ ?_
     exact And.left (hQ _ _ _ rfl rfl (by cases h;subst hR;rfl))
   refine hN1 _ (_,m1) [] h (Nat.lt_succ_self _) trivial ?_;(cbv;(try simp only [e_rnil hR]);repeat' (first | exact trivial | exact rfl | exact Or.inr trivial | apply And.intro))
 refine hX1 _ _ ?_;cbv
 exact And.left (hQ _ _ _ rfl rfl (by cases h;subst hR;rfl))
end Gn
end Go.Proofs.YtjhbgkakhaonaaaGreatDoor
