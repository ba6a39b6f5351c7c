/- Texts that the proof leans on. -/
import Derived.Test.YtjhbgkakhaonaaaGreatDoorK236
set_option linter.unusedVariables false
set_option linter.unusedSimpArgs false
set_option maxRecDepth 100000
set_option maxHeartbeats 4000000
namespace Go.Proofs.YtjhbgkakhaonaaaGreatDoor
open Go Go.RowKit
open Ab Sh
namespace Gn
theorem r16_Right_w {N:Nat} {p0:GSpots} {r:Bool} (h:r16_Right_g N p0=some r):FunS Tryz.prog 35 [.agg [.t (.slc (rw _ cSet p0.Sets)),fB p0.None,.t (.slc (rw _ (cI .i64) p0.First)),.t (.slc (rw _ (cI .i64) p0.Last)),.t (.slc (rw _ (cLs (cI .i64)) p0.Next))]] (r16_Right_s rw) r:=by
 refine fun_w lay_ok Tryz.call35 Tryz.func35 rfl ?_
 intro A W E Q R hE hR hf hQ;rcases W with ⟨ar,cm,conj,cv,sl,sc,ct,sa,ss,ll,_,_,_,_,mi,mx,_,_,_,_,_⟩
 rw [←hR]
 unfold r16_Right_g at h
 rw [q_cm hE,q_ll hE,←hR] at h
 cbv
 refine L_rgJ hE lay_ok h 1 (fun j1:Bool=>[(30,fB j1)]) (fun j1=>[]) (fun j1 h=>?_) (fun j1 h=>?_)<;>cbv
 · refine L_if hE h (fun h=>?_) (fun h=>?_)<;>cbv
   · cases h;(cbv;(try simp only [e_rnil hR]);repeat' (first | exact trivial | exact rfl | exact Or.inr trivial | apply And.intro))
   refine L_if hE h (fun h=>?_) (fun h=>?_)<;>cbv
   · cases h;(cbv;(try simp only [e_rnil hR]);repeat' (first | exact trivial | exact rfl | exact Or.inr trivial | apply And.intro))
   refine L_call hE hR h (fun _ e=>r16_rising_w e) (by subst hR;rfl) rfl fun a1 h=>?_;cbv
   refine L_if hE h (fun h=>?_) (fun h=>?_)<;>cbv
   · cases h;(cbv;(try simp only [e_rnil hR]);repeat' (first | exact trivial | exact rfl | exact Or.inr trivial | apply And.intro))
   refine L_call hE hR h (fun _ e=>r16_rising_w e) (by subst hR;rfl) rfl fun a2 h=>?_;cbv
   cases h;(cbv;(try simp only [e_rnil hR]);repeat' (first | exact trivial | exact rfl | exact Or.inr trivial | apply And.intro))
 refine L_if hE h (fun h=>?_) (fun h=>?_)<;>cbv
 · exact And.left (hQ _ _ _ rfl rfl (by cases h;subst hR;rfl))
 refine L_for hE lay_ok 1 (fun g:Int × Nat=>[(2,fB false),(4,fI .i64 g.1)]) (fun g=>[]) (fun g=>r16_Right_l1 N p0 g.2 g.1=some r) (fun g=>g.2) (_,N) h ?_ ?_
 · (cbv;(try simp only [e_rnil hR]);repeat' (first | exact trivial | exact rfl | exact Or.inr trivial | apply And.intro))
 rintro ⟨v3,m1⟩ h Q1 hN1 hT1 hX1
 have h:r16_Right_l1 N p0 m1 v3=some r:=h
 cases m1 with
 | zero=>exact nomatch (show (none:Option _)=some _ from h)
 | succ m1=>
 rw [r16_Right_l1] at h
 rw [q_ar hE,q_cm hE,q_ll hE,←hR] at h
 cbv
 refine L_if hE h (fun h=>?_) (fun h=>?_)<;>cbv
 · refine L_rowL hE hR h fun r4 h=>?_;cbv
   refine L_call hE hR h (fun _ e=>r16_rising_w e) (by subst hR;rfl) rfl fun a5 h=>?_;cbv
   refine L_if hE h (fun h=>?_) (fun h=>?_)<;>cbv
   · refine hT1 _ ?_
     exact And.left (hQ _ _ _ rfl rfl (by cases h;subst hR;rfl))
   refine hN1 _ (_,m1) [] h (Nat.lt_succ_self _) trivial ?_;(cbv;(try simp only [e_rnil hR]);repeat' (first | exact trivial | exact rfl | exact Or.inr trivial | apply And.intro))
 refine hX1 _ _ ?_;cbv
 exact And.left (hQ _ _ _ rfl rfl (by cases h;subst hR;rfl))
theorem r17_alike_w {N:Nat} {p0:List CSet} {p1:Int} {p2:Int} {r:Bool} (h:r17_alike_g N p0 p1 p2=some r):FunS Tryz.prog 68 [.t (.slc (rw _ cSet p0)),fI .i64 p1,fI .i64 p2] (r17_alike_s rw) r:=by
 refine fun_w lay_ok Tryz.call68 Tryz.func68 rfl ?_
 intro A W E Q R hE hR hf hQ;rcases W with ⟨ar,cm,conj,cv,sl,sc,ct,sa,ss,ll,_,_,_,_,mi,mx,_,_,_,_,_⟩
 rw [←hR]
 unfold r17_alike_g at h
 skip
 cbv
 refine L_for hE lay_ok 0 (fun g:Int × Nat=>[(6,fB false),(7,fI .i64 g.1)]) (fun g=>[]) (fun g=>r17_alike_l1 p0 p1 p2 g.2 g.1=some r) (fun g=>g.2) (_,N) h ?_ ?_
 · (cbv;(try simp only [e_rnil hR]);repeat' (first | exact trivial | exact rfl | exact Or.inr trivial | apply And.intro))
 rintro ⟨v1,m1⟩ h Q1 hN1 hT1 hX1
 have h:r17_alike_l1 p0 p1 p2 m1 v1=some r:=h
 cases m1 with
 | zero=>exact nomatch (show (none:Option _)=some _ from h)
 | succ m1=>
 rw [r17_alike_l1] at h
 rw [q_ar hE,q_cm hE,q_conj hE,q_ll hE,←hR] at h
 cbv
 refine L_if hE h (fun h=>?_) (fun h=>?_)<;>cbv
 · refine L_whole hE lay_ok (by kernel_rfl) (by kernel_rfl) ?_;cbv
   refine L_row hE hR h fun r2 h=>?_;cbv
   refine L_pcall hE hR h (fun _ e=>r12_Has_w e) rfl rfl fun a3 h=>?_;cbv
   refine L_row hE hR h fun r4 h=>?_;cbv
   refine L_pcall hE hR h (fun _ e=>r12_Has_w e) rfl rfl fun a5 h=>?_;cbv
   refine L_if hE h (fun h=>?_) (fun h=>?_)<;>cbv
   · refine hT1 _ ?_
     exact And.left (hQ _ _ _ rfl rfl (by cases h;subst hR;rfl))
   refine hN1 _ (_,m1) [] h (Nat.lt_succ_self _) trivial ?_;(cbv;(try simp only [e_rnil hR]);repeat' (first | exact trivial | exact rfl | exact Or.inr trivial | apply And.intro))
 refine hX1 _ _ ?_;cbv
 exact And.left (hQ _ _ _ rfl rfl (by cases h;subst hR;rfl))
theorem r17_Of_w {N:Nat} {p0:List CSet} {r:List Int} (h:r17_Of_g N p0=some r):FunS Tryz.prog 36 [.t (.slc (rw _ cSet p0))] (r17_Of_s rw) r:=by
 refine fun_w lay_ok Tryz.call36 Tryz.func36 rfl ?_
 intro A W E Q R hE hR hf hQ;rcases W with ⟨ar,cm,conj,cv,sl,sc,ct,sa,ss,ll,_,_,_,_,mi,mx,_,_,_,_,_⟩
 rw [←hR]
 unfold r17_Of_g at h
 skip
 cbv
 refine L_for hE lay_ok 0 (fun g:Int × Int ×(List Int)× Nat=>[(3,.lst 0),(4,fI .i64 g.1),(5,fI .i64 g.2.1)]) (fun g=>[(0,.list 3 1 (R _ (cI .i64) g.2.2.1))]) (fun g=>r17_Of_l1 N p0 g.2.2.2 g.1 g.2.1 g.2.2.1=some r) (fun g=>g.2.2.2) (_,_,_,N) h ?_ ?_
 · (cbv;(try simp only [e_rnil hR]);repeat' (first | exact trivial | exact rfl | exact Or.inr trivial | apply And.intro))
 rintro ⟨v1,v2,v3,m1⟩ h Q1 hN1 hT1 hX1
 have h:r17_Of_l1 N p0 m1 v1 v2 v3=some r:=h
 cases m1 with
 | zero=>exact nomatch (show (none:Option _)=some _ from h)
 | succ m1=>
 rw [r17_Of_l1] at h
 rw [q_cm hE] at h
 cbv
 refine L_if hE h (fun h=>?_) (fun h=>?_)<;>cbv
 · refine L_for hE lay_ok 1 (fun g:Int × Int × Nat=>[(3,.lst 0),(6,fI .i64 g.1),(7,fI .i64 g.2.1)]) (fun g=>[]) (fun g=>r17_Of_l2 N (r17_Of_l1 N p0 m1) p0 v1 v2 v3 g.2.2 g.1 g.2.1=some r) (fun g=>g.2.2) (_,_,N) h ?_ ?_
   · (cbv;(try simp only [e_rnil hR]);repeat' (first | exact trivial | exact rfl | exact Or.inr trivial | apply And.intro))
   rintro ⟨v4,v5,m2⟩ h Q2 hN2 hT2 hX2
   have h:r17_Of_l2 N (r17_Of_l1 N p0 m1) p0 v1 v2 v3 m2 v4 v5=some r:=h
   cases m2 with
   | zero=>exact nomatch (show (none:Option _)=some _ from h)
   | succ m2=>
   rw [r17_Of_l2] at h
   rw [q_ar hE,q_cm hE] at h
   cbv
   refine L_rgJ hE lay_ok h 1 (fun j4:Bool=>[(18,fB j4)]) (fun j4=>[]) (fun j4 h=>?_) (fun j4 h=>?_)<;>cbv
   · refine L_if hE h (fun h=>?_) (fun h=>?_)<;>cbv
     · cases h;(cbv;(try simp only [e_rnil hR]);repeat' (first | exact trivial | exact rfl | exact Or.inr trivial | apply And.intro))
     cases h;(cbv;(try simp only [e_rnil hR]);repeat' (first | exact trivial | exact rfl | exact Or.inr trivial | apply And.intro))
   refine L_if hE h (fun h=>?_) (fun h=>?_)<;>cbv
   · refine L_call hE hR h (fun _ e=>r17_alike_w e) (by subst hR;rfl) rfl fun a6 h=>?_;cbv
     refine L_cdJ hE lay_ok h 1 (fun j5:Int=>[(6,fI .i64 j5)]) (fun j5=>[]) (fun j5 h=>?_) (fun j5 h=>?_)<;>cbv
     · refine L_if hE h (fun h=>?_) (fun h=>?_)<;>cbv
       · refine L_row hE hR h fun r7 h=>?_;cbv
         refine L_row hE hR h fun r8 h=>?_;cbv
         cases h;(cbv;(try simp only [e_rnil hR]);repeat' (first | exact trivial | exact rfl | exact Or.inr trivial | apply And.intro))
       cases h;(cbv;(try simp only [e_rnil hR]);repeat' (first | exact trivial | exact rfl | exact Or.inr trivial | apply And.intro))
     refine hN2 _ (_,_,m2) [] h (Nat.lt_succ_self _) trivial ?_;(cbv;(try simp only [e_rnil hR]);repeat' (first | exact trivial | exact rfl | exact Or.inr trivial | apply And.intro))
   refine hX2 _ _ ?_;cbv
   refine L_cdJ hE lay_ok h 1 (fun j6:Int × Int=>[(4,fI .i64 j6.1),(6,fI .i64 j6.2)]) (fun j6=>[]) (fun j6 h=>?_) (fun j6 h=>?_)<;>cbv
   · refine L_if hE h (fun h=>?_) (fun h=>?_)<;>cbv
     · cases h;(cbv;(try simp only [e_rnil hR]);repeat' (first | exact trivial | exact rfl | exact Or.inr trivial | apply And.intro))
     cases h;(cbv;(try simp only [e_rnil hR]);repeat' (first | exact trivial | exact rfl | exact Or.inr trivial | apply And.intro))
   refine L_appL hE hR h rfl (hf _) (fun _=>rfl) (by decide) fun l9 e h=>?_;cbv at e;rw [e];clear e
   refine hN1 _ (_,_,_,m1) [] h (Nat.lt_succ_self _) trivial ?_;(cbv;(try simp only [e_rnil hR]);repeat' (first | exact trivial | exact rfl | exact Or.inr trivial | apply And.intro))
 refine hX1 _ _ ?_;cbv
 exact And.left (hQ _ _ _ rfl rfl (by cases h;subst hR;rfl))
theorem r16_in_w {N:Nat} {p0:List Int} {p1:Int} {r:Bool} (h:r16_in_g N p0 p1=some r):FunS Tryz.prog 69 [.t (.slc (rw _ (cI .i64) p0)),fI .i64 p1] (r16_in_s rw) r:=by
 refine fun_w lay_ok Tryz.call69 Tryz.func69 rfl ?_
 intro A W E Q R hE hR hf hQ;rcases W with ⟨ar,cm,conj,cv,sl,sc,ct,sa,ss,ll,_,_,_,_,mi,mx,_,_,_,_,_⟩
 rw [←hR]
 unfold r16_in_g at h
 skip
 cbv
 refine L_for hE lay_ok 0 (fun g:Int × Nat=>[(4,fB false),(5,fI .i64 g.1)]) (fun g=>[]) (fun g=>r16_in_l1 p0 p1 g.2 g.1=some r) (fun g=>g.2) (_,N) h ?_ ?_
 · (cbv;(try simp only [e_rnil hR]);repeat' (first | exact trivial | exact rfl | exact Or.inr trivial | apply And.intro))
 rintro ⟨v1,m1⟩ h Q1 hN1 hT1 hX1
 have h:r16_in_l1 p0 p1 m1 v1=some r:=h
 cases m1 with
 | zero=>exact nomatch (show (none:Option _)=some _ from h)
 | succ m1=>
 rw [r16_in_l1] at h
 rw [q_ar hE,q_cm hE,q_ll hE,←hR] at h
 cbv
 refine L_if hE h (fun h=>?_) (fun h=>?_)<;>cbv
 · refine L_row hE hR h fun r2 h=>?_;cbv
   refine L_if hE h (fun h=>?_) (fun h=>?_)<;>cbv
   · refine hT1 _ ?_
     exact And.left (hQ _ _ _ rfl rfl (by cases h;subst hR;rfl))
   refine hN1 _ (_,m1) [] h (Nat.lt_succ_self _) trivial ?_;(cbv;(try simp only [e_rnil hR]);repeat' (first | exact trivial | exact rfl | exact Or.inr trivial | apply And.intro))
 refine hX1 _ _ ?_;cbv
 exact And.left (hQ _ _ _ rfl rfl (by cases h;subst hR;rfl))
end Gn
end Go.Proofs.YtjhbgkakhaonaaaGreatDoor
namespace Go.Proofs.YtjhbgkakhaonaaaGreatDoor
open Go Go.RowKit
open Ab Sh
namespace Gn
theorem r16_Join_w {N:Nat} {p0:List Int} {p1:List Int} {p2:Int} {r:List Int} (h:r16_Join_g N p0 p1 p2=some r):FunS Tryz.prog 37 [.t (.slc (rw _ (cI .i64) p0)),.t (.slc (rw _ (cI .i64) p1)),fI .i64 p2] (r16_Join_s rw) r:=by
 refine fun_w lay_ok Tryz.call37 Tryz.func37 rfl ?_
 intro A W E Q R hE hR hf hQ;rcases W with ⟨ar,cm,conj,cv,sl,sc,ct,sa,ss,ll,_,_,_,_,mi,mx,_,_,_,_,_⟩
 rw [←hR]
 unfold r16_Join_g at h
 skip
 cbv
 refine L_for hE lay_ok 0 (fun g:Int ×(List Int)× Nat=>[(7,.lst 0),(8,fI .i64 g.1)]) (fun g=>[(0,.list 3 1 (R _ (cI .i64) g.2.1))]) (fun g=>r16_Join_l1 N p0 p1 p2 g.2.2 g.1 g.2.1=some r) (fun g=>g.2.2) (_,_,N) h ?_ ?_
 · (cbv;(try simp only [e_rnil hR]);repeat' (first | exact trivial | exact rfl | exact Or.inr trivial | apply And.intro))
 rintro ⟨v1,v2,m1⟩ h Q1 hN1 hT1 hX1
 have h:r16_Join_l1 N p0 p1 p2 m1 v1 v2=some r:=h
 cases m1 with
 | zero=>exact nomatch (show (none:Option _)=some _ from h)
 | succ m1=>
 rw [r16_Join_l1] at h
 rw [q_ar hE,q_cm hE] at h
 cbv
 refine L_if hE h (fun h=>?_) (fun h=>?_)<;>cbv
 · refine L_rgJ hE lay_ok h 1 (fun j3:Bool=>[(21,fB j3)]) (fun j3=>[]) (fun j3 h=>?_) (fun j3 h=>?_)<;>cbv
   · refine L_call hE hR h (fun _ e=>r16_in_w e) (by subst hR;rfl) rfl fun a3 h=>?_;cbv
     refine L_if hE h (fun h=>?_) (fun h=>?_)<;>cbv
     · cases h;(cbv;(try simp only [e_rnil hR]);repeat' (first | exact trivial | exact rfl | exact Or.inr trivial | apply And.intro))
     refine L_call hE hR h (fun _ e=>r16_in_w e) (by subst hR;rfl) rfl fun a4 h=>?_;cbv
     cases h;(cbv;(try simp only [e_rnil hR]);repeat' (first | exact trivial | exact rfl | exact Or.inr trivial | apply And.intro))
   refine L_cdJ hE lay_ok h 1 (fun j4:(List Int)=>[(7,.lst 0)]) (fun j4=>[(0,.list 3 1 (R _ (cI .i64) j4))]) (fun j4 h=>?_) (fun j4 h=>?_)<;>cbv
   · refine L_if hE h (fun h=>?_) (fun h=>?_)<;>cbv
     · refine L_appL hE hR h rfl (hf _) (fun _=>rfl) (by decide) fun l5 e h=>?_;cbv at e;rw [e];clear e
       cases h;(cbv;(try simp only [e_rnil hR]);repeat' (first | exact trivial | exact rfl | exact Or.inr trivial | apply And.intro))
     cases h;(cbv;(try simp only [e_rnil hR]);repeat' (first | exact trivial | exact rfl | exact Or.inr trivial | apply And.intro))
   refine hN1 _ (_,_,m1) [] h (Nat.lt_succ_self _) trivial ?_;(cbv;(try simp only [e_rnil hR]);repeat' (first | exact trivial | exact rfl | exact Or.inr trivial | apply And.intro))
 refine hX1 _ _ ?_;cbv
 exact And.left (hQ _ _ _ rfl rfl (by cases h;subst hR;rfl))
theorem r18_in_w {N:Nat} {p0:List Int} {p1:Int} {r:Bool} (h:r18_in_g N p0 p1=some r):FunS Tryz.prog 39 [.t (.slc (rw _ (cI .i64) p0)),fI .i64 p1] (r18_in_s rw) r:=by
 refine fun_w lay_ok Tryz.call39 Tryz.func39 rfl ?_
 intro A W E Q R hE hR hf hQ;rcases W with ⟨ar,cm,conj,cv,sl,sc,ct,sa,ss,ll,_,_,_,_,mi,mx,_,_,_,_,_⟩
 rw [←hR]
 unfold r18_in_g at h
 skip
 cbv
 refine L_for hE lay_ok 0 (fun g:Int × Nat=>[(4,fB false),(5,fI .i64 g.1)]) (fun g=>[]) (fun g=>r18_in_l1 p0 p1 g.2 g.1=some r) (fun g=>g.2) (_,N) h ?_ ?_
 · (cbv;(try simp only [e_rnil hR]);repeat' (first | exact trivial | exact rfl | exact Or.inr trivial | apply And.intro))
 rintro ⟨v1,m1⟩ h Q1 hN1 hT1 hX1
 have h:r18_in_l1 p0 p1 m1 v1=some r:=h
 cases m1 with
 | zero=>exact nomatch (show (none:Option _)=some _ from h)
 | succ m1=>
 rw [r18_in_l1] at h
 rw [q_ar hE,q_cm hE,q_ll hE,←hR] at h
 cbv
 refine L_if hE h (fun h=>?_) (fun h=>?_)<;>cbv
 · refine L_row hE hR h fun r2 h=>?_;cbv
   refine L_if hE h (fun h=>?_) (fun h=>?_)<;>cbv
   · refine hT1 _ ?_
     exact And.left (hQ _ _ _ rfl rfl (by cases h;subst hR;rfl))
   refine hN1 _ (_,m1) [] h (Nat.lt_succ_self _) trivial ?_;(cbv;(try simp only [e_rnil hR]);repeat' (first | exact trivial | exact rfl | exact Or.inr trivial | apply And.intro))
 refine hX1 _ _ ?_;cbv
 exact And.left (hQ _ _ _ rfl rfl (by cases h;subst hR;rfl))
theorem porterbase_SameInts_w {N:Nat} {p0:List Int} {p1:List Int} {r:Bool} (h:porterbase_SameInts_g N p0 p1=some r):FunS Tryz.prog 42 [.t (.slc (rw _ (cI .i64) p0)),.t (.slc (rw _ (cI .i64) p1))] (porterbase_SameInts_s rw) r:=by
 refine fun_w lay_ok Tryz.call42 Tryz.func42 rfl ?_
 intro A W E Q R hE hR hf hQ;rcases W with ⟨ar,cm,conj,cv,sl,sc,ct,sa,ss,ll,_,_,_,_,mi,mx,_,_,_,_,_⟩
 rw [←hR]
 unfold porterbase_SameInts_g at h
 rw [q_cm hE,q_ll hE,←hR] at h
 cbv
 refine L_if hE h (fun h=>?_) (fun h=>?_)<;>cbv
 · exact And.left (hQ _ _ _ rfl rfl (by cases h;subst hR;rfl))
 refine L_for hE lay_ok 0 (fun g:Int × Nat=>[(4,fB false),(5,fI .i64 g.1)]) (fun g=>[]) (fun g=>porterbase_SameInts_l1 p0 p1 g.2 g.1=some r) (fun g=>g.2) (_,N) h ?_ ?_
 · (cbv;(try simp only [e_rnil hR]);repeat' (first | exact trivial | exact rfl | exact Or.inr trivial | apply And.intro))
 rintro ⟨v1,m1⟩ h Q1 hN1 hT1 hX1
 have h:porterbase_SameInts_l1 p0 p1 m1 v1=some r:=h
 cases m1 with
 | zero=>exact nomatch (show (none:Option _)=some _ from h)
 | succ m1=>
 rw [porterbase_SameInts_l1] at h
 rw [q_ar hE,q_cm hE,q_ll hE,←hR] at h
 cbv
 refine L_if hE h (fun h=>?_) (fun h=>?_)<;>cbv
 · refine L_whole hE lay_ok (by kernel_rfl) (by kernel_rfl) ?_;cbv
   refine L_row hE hR h fun r2 h=>?_;cbv
   refine L_row hE hR h fun r3 h=>?_;cbv
   refine L_if hE h (fun h=>?_) (fun h=>?_)<;>cbv
   · refine hT1 _ ?_
     exact And.left (hQ _ _ _ rfl rfl (by cases h;subst hR;rfl))
   refine hN1 _ (_,m1) [] h (Nat.lt_succ_self _) trivial ?_;(cbv;(try simp only [e_rnil hR]);repeat' (first | exact trivial | exact rfl | exact Or.inr trivial | apply And.intro))
 refine hX1 _ _ ?_;cbv
 exact And.left (hQ _ _ _ rfl rfl (by cases h;subst hR;rfl))
theorem r18_find_w {N:Nat} {p0:List (List Int)} {p1:List Int} {r:Int} (h:r18_find_g N p0 p1=some r):FunS Tryz.prog 40 [.t (.slc (rw _ (cLs (cI .i64)) p0)),.t (.slc (rw _ (cI .i64) p1))] (r18_find_s rw) r:=by
 refine fun_w lay_ok Tryz.call40 Tryz.func40 rfl ?_
 intro A W E Q R hE hR hf hQ;rcases W with ⟨ar,cm,conj,cv,sl,sc,ct,sa,ss,ll,_,_,_,_,mi,mx,_,_,_,_,_⟩
 rw [←hR]
 unfold r18_find_g at h
 skip
 cbv
 refine L_for hE lay_ok 0 (fun g:Int × Nat=>[(4,fI .i64 0),(5,fI .i64 g.1)]) (fun g=>[]) (fun g=>r18_find_l1 N p0 p1 g.2 g.1=some r) (fun g=>g.2) (_,N) h ?_ ?_
 · (cbv;(try simp only [e_rnil hR]);repeat' (first | exact trivial | exact rfl | exact Or.inr trivial | apply And.intro))
 rintro ⟨v1,m1⟩ h Q1 hN1 hT1 hX1
 have h:r18_find_l1 N p0 p1 m1 v1=some r:=h
 cases m1 with
 | zero=>exact nomatch (show (none:Option _)=some _ from h)
 | succ m1=>
 rw [r18_find_l1] at h
 rw [q_ar hE,q_cm hE,q_ll hE,←hR] at h
 cbv
 refine L_if hE h (fun h=>?_) (fun h=>?_)<;>cbv
 · refine L_rowL hE hR h fun r2 h=>?_;cbv
   refine L_call hE hR h (fun _ e=>porterbase_SameInts_w e) (by subst hR;rfl) rfl fun a3 h=>?_;cbv
   refine L_if hE h (fun h=>?_) (fun h=>?_)<;>cbv
   · refine hT1 _ ?_
     exact And.left (hQ _ _ _ rfl rfl (by cases h;subst hR;rfl))
   refine hN1 _ (_,m1) [] h (Nat.lt_succ_self _) trivial ?_;(cbv;(try simp only [e_rnil hR]);repeat' (first | exact trivial | exact rfl | exact Or.inr trivial | apply And.intro))
 refine hX1 _ _ ?_;cbv
 exact And.left (hQ _ _ _ rfl rfl (by cases h;subst hR;rfl))
end Gn
end Go.Proofs.YtjhbgkakhaonaaaGreatDoor
namespace Go.Proofs.YtjhbgkakhaonaaaGreatDoor
open Go Go.RowKit
open Ab Sh
namespace Gn
theorem r18_Of_w {N : Nat} {p0:GSpots} {p1:Int} {r:GDfa × Int} (h:r18_Of_g N p0 p1=some r):FunS Tryz.prog 17 [.agg [.t (.slc (rw _ cSet p0.Sets)),fB p0.None,.t (.slc (rw _ (cI .i64) p0.First)),.t (.slc (rw _ (cI .i64) p0.Last)),.t (.slc (rw _ (cLs (cI .i64)) p0.Next))],fI .i64 p1] (r18_Of_s rw) r:=by
 refine fun_w lay_ok Tryz.call17 Tryz.func17 rfl ?_
 intro A W E Q R hE hR hf hQ;rcases W with ⟨ar,cm,conj,cv,sl,sc,ct,sa,ss,ll,_,_,_,_,mi,mx,_,_,_,_,_⟩
 rw [←hR]
 unfold r18_Of_g at h
 skip
 cbv
 refine L_call hE hR h (fun _ e=>r16_Right_w e) (by subst hR;rfl) rfl fun a1 h=>?_;cbv
 refine L_if hE h (fun h=>?_) (fun h=>?_)<;>cbv
 · exact And.left (hQ _ _ _ rfl rfl (by cases h;subst hR;rfl))
 refine L_tail hE lay_ok (by kernel_rfl) 8 (by kernel_rfl) ?_;cbv
 refine L_pcall hE hR h (fun _ e=>r17_Of_w e) (by subst hR;rfl) rfl fun a2 h=>?_;cbv
 refine L_call hE hR h (fun _ e=>r17_Count_w e) (by subst hR;rfl) rfl fun a3 h=>?_;cbv
 refine L_junk hE 29 ?_;cbv
 refine L_lit hR (e:=(cLs (cI .i64))) h (by subst hR;rfl) fun l4 e h=>?_;cbv at e;rw [e];clear e
 refine L_lit hR (e:=cB) h rfl fun l5 e h=>?_;cbv at e;rw [e];clear e
 refine L_opnL hE 9 3 23 1 rfl rfl ?_;cbv
 refine L_for hE lay_ok 13 (fun g:Int ×(List Bool)×(List (List Int))×(List (List Int))× Nat=>[(5,fI .i64 0),(8,.lst 11),(9,fI .i64 g.1)]) (fun g=>[(7,.list 4 1 (R _ cB g.2.1)),(11,.list 23 1 (R _ (cLs (cI .i64)) g.2.2.1)),(12,.list 23 1 (R _ (cLs (cI .i64)) g.2.2.2.1))]) (fun g=>r18_Of_l1 N p0 p1 a2 a3 g.2.2.2.2 g.1 g.2.1 g.2.2.1 g.2.2.2.1=some r) (fun g=>g.2.2.2.2) (_,_,_,_,N) h ?_ ?_
 · (cbv;(try simp only [e_rnil hR]);repeat' (first | exact trivial | exact rfl | exact Or.inr trivial | apply And.intro))
 rintro ⟨v6,v7,v8,v9,m1⟩ h Q1 hN1 hT1 hX1
 have h:r18_Of_l1 N p0 p1 a2 a3 m1 v6 v7 v8 v9=some r:=h
 cases m1 with
 | zero=>exact nomatch (show (none:Option _)=some _ from h)
 | succ m1=>
 rw [r18_Of_l1] at h
 rw [q_cm hE,q_ll hE,←hR] at h
 cbv
 refine L_if hE h (fun h=>?_) (fun h=>?_)<;>cbv
 · refine L_denil hE 10 rfl ?_;cbv
   refine L_cdJ hE lay_ok h 13 (fun j21:(List Int)=>[(10,.t (.slc (R _ (cI .i64) j21)))]) (fun j21=>[]) (fun j21 h=>?_) (fun j21 h=>?_)<;>cbv
   · refine L_if hE h (fun h=>?_) (fun h=>?_)<;>cbv
     · cases h;(cbv;(try simp only [e_rnil hR]);repeat' (first | exact trivial | exact rfl | exact Or.inr trivial | apply And.intro))
     cases h;(cbv;(try simp only [e_rnil hR]);repeat' (first | exact trivial | exact rfl | exact Or.inr trivial | apply And.intro))
   refine L_for hE lay_ok 13 (fun g:(List Int)× Int × Nat=>[(8,.lst 11),(10,.t (.slc (R _ (cI .i64) g.1))),(11,fI .i64 g.2.1),(35,.lst 11)]) (fun g=>[]) (fun g=>r18_Of_l2 N (r18_Of_l1 N p0 p1 a2 a3 m1) p0 p1 a2 a3 v6 v7 v8 v9 g.2.2 g.1 g.2.1=some r) (fun g=>g.2.2) (_,_,N) h ?_ ?_
   · (cbv;(try simp only [e_rnil hR]);repeat' (first | exact trivial | exact rfl | exact Or.inr trivial | apply And.intro))
   rintro ⟨v10,v11,m2⟩ h Q2 hN2 hT2 hX2
   have h:r18_Of_l2 N (r18_Of_l1 N p0 p1 a2 a3 m1) p0 p1 a2 a3 v6 v7 v8 v9 m2 v10 v11=some r:=h
   cases m2 with
   | zero=>exact nomatch (show (none:Option _)=some _ from h)
   | succ m2=>
   rw [r18_Of_l2] at h
   rw [q_ar hE,q_cm hE,q_ll hE,←hR] at h
   cbv
   refine L_rowL hE hR h fun r12 h=>?_;cbv
   refine L_rowL hE hR h fun r13 h=>?_;cbv
   refine L_if hE h (fun h=>?_) (fun h=>?_)<;>cbv
   · refine L_whole hE lay_ok (by kernel_rfl) (by kernel_rfl) ?_;cbv
     refine L_rowL hE hR h fun r14 h=>?_;cbv
     refine L_rowL hE hR h fun r15 h=>?_;cbv
     refine L_row hE hR h fun r16 h=>?_;cbv
     refine L_rowL hE hR h fun r17 h=>?_;cbv
     refine L_pcall hE hR h (fun _ e=>r16_Join_w e) (by subst hR;rfl) rfl fun a18 h=>?_;cbv
     refine hN2 _ (_,_,m2) [] h (Nat.lt_succ_self _) trivial ?_;(cbv;(try simp only [e_rnil hR]);repeat' (first | exact trivial | exact rfl | exact Or.inr trivial | apply And.intro))
   refine hX2 _ _ ?_;cbv
   refine L_for hE lay_ok 13 (fun g:Int ×(List Bool)×(List (List Int))×(List Int)× Nat=>[(5,fI .i64 0),(8,.lst 11),(12,.lst 13),(13,fI .i64 g.1)]) (fun g=>[(7,.list 4 1 (R _ cB g.2.1)),(11,.list 23 1 (R _ (cLs (cI .i64)) g.2.2.1)),(13,.list 3 1 (R _ (cI .i64) g.2.2.2.1))]) (fun g=>r18_Of_l3 N (r18_Of_l1 N p0 p1 a2 a3 m1) p0 p1 a2 a3 v6 v9 v10 g.2.2.2.2 g.1 g.2.1 g.2.2.1 g.2.2.2.1=some r) (fun g=>g.2.2.2.2) (_,_,_,_,N) h ?_ ?_
   · (cbv;(try simp only [e_rnil hR]);repeat' (first | exact trivial | exact rfl | exact Or.inr trivial | apply And.intro))
   rintro ⟨v19,v20,v21,v22,m3⟩ h Q3 hN3 hT3 hX3
   have h:r18_Of_l3 N (r18_Of_l1 N p0 p1 a2 a3 m1) p0 p1 a2 a3 v6 v9 v10 m3 v19 v20 v21 v22=some r:=h
   cases m3 with
   | zero=>exact nomatch (show (none:Option _)=some _ from h)
   | succ m3=>
   rw [r18_Of_l3] at h
   rw [q_ar hE,q_cm hE] at h
   cbv
   refine L_if hE h (fun h=>?_) (fun h=>?_)<;>cbv
   · refine L_for hE lay_ok 14 (fun g:Int × Nat=>[(8,.lst 11),(12,.lst 13),(14,fI .i64 g.1)]) (fun g=>[]) (fun g=>r18_Of_l4 N (r18_Of_l3 N (r18_Of_l1 N p0 p1 a2 a3 m1) p0 p1 a2 a3 v6 v9 v10 m3) p0 p1 a2 v19 v21 v22 v20 v10 g.2 g.1=some r) (fun g=>g.2) (_,N) h ?_ ?_
     · (cbv;(try simp only [e_rnil hR]);repeat' (first | exact trivial | exact rfl | exact Or.inr trivial | apply And.intro))
     rintro ⟨v23,m4⟩ h Q4 hN4 hT4 hX4
     have h:r18_Of_l4 N (r18_Of_l3 N (r18_Of_l1 N p0 p1 a2 a3 m1) p0 p1 a2 a3 v6 v9 v10 m3) p0 p1 a2 v19 v21 v22 v20 v10 m4 v23=some r:=h
     cases m4 with
     | zero=>exact nomatch (show (none:Option _)=some _ from h)
     | succ m4=>
     rw [r18_Of_l4] at h
     rw [q_ar hE,q_cm hE] at h
     cbv
     refine L_row hE hR h fun r24 h=>?_;cbv
     refine L_if hE h (fun h=>?_) (fun h=>?_)<;>cbv
     · refine hN4 _ (_,m4) [] h (Nat.lt_succ_self _) trivial ?_;(cbv;(try simp only [e_rnil hR]);repeat' (first | exact trivial | exact rfl | exact Or.inr trivial | apply And.intro))
     refine hX4 _ _ ?_;cbv
     refine L_for hE lay_ok 14 (fun g:Bool × Int ×(List Int)× Nat=>[(8,.lst 11),(12,.lst 13),(15,.lst 14),(16,fB g.1),(17,fI .i64 g.2.1)]) (fun g=>[(14,.list 3 1 (R _ (cI .i64) g.2.2.1))]) (fun g=>r18_Of_l5 N (r18_Of_l3 N (r18_Of_l1 N p0 p1 a2 a3 m1) p0 p1 a2 a3 v6 v9 v10 m3) p0 p1 v19 v21 v22 v23 v20 v10 g.2.2.2 g.1 g.2.1 g.2.2.1=some r) (fun g=>g.2.2.2) (_,_,_,N) h ?_ ?_
     · (cbv;(try simp only [e_rnil hR]);repeat' (first | exact trivial | exact rfl | exact Or.inr trivial | apply And.intro))
     rintro ⟨v25,v26,v27,m5⟩ h Q5 hN5 hT5 hX5
     have h:r18_Of_l5 N (r18_Of_l3 N (r18_Of_l1 N p0 p1 a2 a3 m1) p0 p1 a2 a3 v6 v9 v10 m3) p0 p1 v19 v21 v22 v23 v20 v10 m5 v25 v26 v27=some r:=h
     cases m5 with
     | zero=>exact nomatch (show (none:Option _)=some _ from h)
     | succ m5=>
     rw [r18_Of_l5] at h
     rw [q_ar hE,q_cm hE,q_ll hE,←hR] at h
     cbv
     refine L_if hE h (fun h=>?_) (fun h=>?_)<;>cbv
     · refine L_whole hE lay_ok (by kernel_rfl) (by kernel_rfl) ?_;cbv
       refine L_row hE hR h fun r28 h=>?_;cbv
       refine L_row hE hR h fun r29 h=>?_;cbv
       refine L_pcall hE hR h (fun _ e=>r12_Has_w e) rfl rfl fun a30 h=>?_;cbv
       refine L_cdJ hE lay_ok h 25 (fun j30:Bool ×(List Int)=>[(15,.lst 14),(16,fB j30.1)]) (fun j30=>[(14,.list 3 1 (R _ (cI .i64) j30.2))]) (fun j30 h=>?_) (fun j30 h=>?_)<;>cbv
       · refine L_if hE h (fun h=>?_) (fun h=>?_)<;>cbv
         · refine L_row hE hR h fun r31 h=>?_;cbv
           refine L_appL hE hR h rfl (hf _) (fun _=>rfl) (by decide) fun l32 e h=>?_;cbv at e;rw [e];clear e
           refine L_whole hE lay_ok (by kernel_rfl) (by kernel_rfl) ?_;cbv
           refine L_if hE h (fun h=>?_) (fun h=>?_)<;>cbv
           · refine L_if hE h (fun h=>?_) (fun h=>?_)<;>cbv
             · refine L_if hE h (fun h=>?_) (fun h=>?_)<;>cbv
               · refine L_if hE h (fun h=>?_) (fun h=>?_)<;>cbv
                 · refine L_if hE h (fun h=>?_) (fun h=>?_)<;>cbv
                   · refine L_if hE h (fun h=>?_) (fun h=>?_)<;>cbv
                     · refine L_if hE h (fun h=>?_) (fun h=>?_)<;>cbv
                       · refine L_if hE h (fun h=>?_) (fun h=>?_)<;>cbv
                         · cases h;(cbv;(try simp only [e_rnil hR]);repeat' (first | exact trivial | exact rfl | exact Or.inr trivial | apply And.intro))
                         exact nomatch h
                       exact nomatch h
                     exact nomatch h
                   exact nomatch h
                 exact nomatch h
               exact nomatch h
             exact nomatch h
           refine L_if hE h (fun h=>?_) (fun h=>?_)<;>cbv
           · exact nomatch h
           refine L_if hE h (fun h=>?_) (fun h=>?_)<;>cbv
           · exact nomatch h
           refine L_if hE h (fun h=>?_) (fun h=>?_)<;>cbv
           · exact nomatch h
           refine L_if hE h (fun h=>?_) (fun h=>?_)<;>cbv
           · exact nomatch h
           refine L_row hE hR h fun r33 h=>?_;cbv
           refine L_if hE h (fun h=>?_) (fun h=>?_)<;>cbv
           · exact nomatch h
           refine L_if hE h (fun h=>?_) (fun h=>?_)<;>cbv
           · exact nomatch h
           refine L_pcall hE hR h (fun _ e=>r18_in_w e) (by subst hR;rfl) rfl fun a34 h=>?_;cbv
           refine L_if hE h (fun h=>?_) (fun h=>?_)<;>cbv
           · exact nomatch h
           cases h;(cbv;(try simp only [e_rnil hR]);repeat' (first | exact trivial | exact rfl | exact Or.inr trivial | apply And.intro))
         cases h;(cbv;(try simp only [e_rnil hR]);repeat' (first | exact trivial | exact rfl | exact Or.inr trivial | apply And.intro))
       refine hN5 _ (_,_,_,m5) [] h (Nat.lt_succ_self _) trivial ?_;(cbv;(try simp only [e_rnil hR]);repeat' (first | exact trivial | exact rfl | exact Or.inr trivial | apply And.intro))
     refine hX5 _ _ ?_;cbv
     refine L_bare hE hR h (fun _ e=>r18_find_w e) rfl (by subst hR;rfl) (fun _=>rfl) fun a35 h=>?_;cbv
     refine L_cd hE lay_ok ?_;cbv
     refine L_if hE h (fun h=>?_) (fun h=>?_)<;>cbv
     · refine ⟨(hf _),?_⟩
       refine L_appL hE hR h (by subst hR;rfl) (hf _) (fun _=>rfl) (by decide) fun l36 e h=>?_;cbv at e;rw [e];clear e
       refine L_appL hE hR h rfl (hf _) (fun _=>rfl) (by decide) fun l37 e h=>?_;cbv at e;rw [e];clear e
       refine L_if hE h (fun h=>?_) (fun h=>?_)<;>cbv
       · refine hT3 _ ?_
         refine hT1 _ ?_
         exact And.left (hQ _ _ _ rfl rfl (by cases h;subst hR;rfl))
       refine L_appL hE hR h rfl (hf _) (fun _=>rfl) (by decide) fun l38 e h=>?_;cbv at e;rw [e];clear e
       refine hN3 _ (_,_,_,_,m3) [] h (Nat.lt_succ_self _) trivial ?_;(cbv;(try simp only [e_rnil hR]);repeat' (first | exact trivial | exact rfl | exact Or.inr trivial | apply And.intro))
     refine L_if hE h (fun h=>?_) (fun h=>?_)<;>cbv
     · refine hT3 _ ?_
       refine hT1 _ ?_
       exact And.left (hQ _ _ _ rfl rfl (by cases h;subst hR;rfl))
     refine L_appL hE hR h rfl (hf _) (fun _=>rfl) (by decide) fun l39 e h=>?_;cbv at e;rw [e];clear e
     refine hN3 _ (_,_,_,_,m3) [] h (Nat.lt_succ_self _) trivial ?_;(cbv;(try simp only [e_rnil hR]);repeat' (first | exact trivial | exact rfl | exact Or.inr trivial | apply And.intro))
   refine hX3 _ _ ?_;cbv
   refine ⟨(hf _),?_⟩
   refine L_appL hE hR h (by subst hR;rfl) (hf _) (fun _=>rfl) (by decide) fun l40 e h=>?_;cbv at e;rw [e];clear e
   refine hN1 _ (_,_,_,_,m1) [] h (Nat.lt_succ_self _) trivial ?_;(cbv;(try simp only [e_rnil hR]);repeat' (first | exact trivial | exact rfl | exact Or.inr trivial | apply And.intro))
 refine hX1 _ _ ?_;cbv
 exact And.left (hQ _ _ _ rfl rfl (by cases h;subst hR;rfl))
theorem porterbase_SameBools_w {N:Nat} {p0:List Bool} {p1:List Bool} {r:Bool} (h:porterbase_SameBools_g N p0 p1=some r):FunS Tryz.prog 41 [.t (.slc (rw _ cB p0)),.t (.slc (rw _ cB p1))] (porterbase_SameBools_s rw) r:=by
 refine fun_w lay_ok Tryz.call41 Tryz.func41 rfl ?_
 intro A W E Q R hE hR hf hQ;rcases W with ⟨ar,cm,conj,cv,sl,sc,ct,sa,ss,ll,_,_,_,_,mi,mx,_,_,_,_,_⟩
 rw [←hR]
 unfold porterbase_SameBools_g at h
 rw [q_cm hE,q_ll hE,←hR] at h
 cbv
 refine L_if hE h (fun h=>?_) (fun h=>?_)<;>cbv
 · exact And.left (hQ _ _ _ rfl rfl (by cases h;subst hR;rfl))
 refine L_for hE lay_ok 0 (fun g:Int × Nat=>[(4,fB false),(5,fI .i64 g.1)]) (fun g=>[]) (fun g=>porterbase_SameBools_l1 p0 p1 g.2 g.1=some r) (fun g=>g.2) (_,N) h ?_ ?_
 · (cbv;(try simp only [e_rnil hR]);repeat' (first | exact trivial | exact rfl | exact Or.inr trivial | apply And.intro))
 rintro ⟨v1,m1⟩ h Q1 hN1 hT1 hX1
 have h:porterbase_SameBools_l1 p0 p1 m1 v1=some r:=h
 cases m1 with
 | zero=>exact nomatch (show (none:Option _)=some _ from h)
 | succ m1=>
 rw [porterbase_SameBools_l1] at h
 rw [q_ar hE,q_cm hE,q_conj hE,q_ll hE,←hR] at h
 cbv
 refine L_if hE h (fun h=>?_) (fun h=>?_)<;>cbv
 · refine L_whole hE lay_ok (by kernel_rfl) (by kernel_rfl) ?_;cbv
   refine L_row hE hR h fun r2 h=>?_;cbv
   refine L_row hE hR h fun r3 h=>?_;cbv
   refine L_if hE h (fun h=>?_) (fun h=>?_)<;>cbv
   · refine hT1 _ ?_
     exact And.left (hQ _ _ _ rfl rfl (by cases h;subst hR;rfl))
   refine hN1 _ (_,m1) [] h (Nat.lt_succ_self _) trivial ?_;(cbv;(try simp only [e_rnil hR]);repeat' (first | exact trivial | exact rfl | exact Or.inr trivial | apply And.intro))
 refine hX1 _ _ ?_;cbv
 exact And.left (hQ _ _ _ rfl rfl (by cases h;subst hR;rfl))
theorem r18_SameRows_w {N:Nat} {p0:List (List Int)} {p1:List (List Int)} {r:Bool} (h:r18_SameRows_g N p0 p1=some r):FunS Tryz.prog 43 [.t (.slc (rw _ (cLs (cI .i64)) p0)),.t (.slc (rw _ (cLs (cI .i64)) p1))] (r18_SameRows_s rw) r:=by
 refine fun_w lay_ok Tryz.call43 Tryz.func43 rfl ?_
 intro A W E Q R hE hR hf hQ;rcases W with ⟨ar,cm,conj,cv,sl,sc,ct,sa,ss,ll,_,_,_,_,mi,mx,_,_,_,_,_⟩
 rw [←hR]
 unfold r18_SameRows_g at h
 rw [q_cm hE,q_ll hE,←hR] at h
 cbv
 refine L_if hE h (fun h=>?_) (fun h=>?_)<;>cbv
 · exact And.left (hQ _ _ _ rfl rfl (by cases h;subst hR;rfl))
 refine L_for hE lay_ok 0 (fun g:Int × Nat=>[(4,fB false),(5,fI .i64 g.1)]) (fun g=>[]) (fun g=>r18_SameRows_l1 N p0 p1 g.2 g.1=some r) (fun g=>g.2) (_,N) h ?_ ?_
 · (cbv;(try simp only [e_rnil hR]);repeat' (first | exact trivial | exact rfl | exact Or.inr trivial | apply And.intro))
 rintro ⟨v1,m1⟩ h Q1 hN1 hT1 hX1
 have h:r18_SameRows_l1 N p0 p1 m1 v1=some r:=h
 cases m1 with
 | zero=>exact nomatch (show (none:Option _)=some _ from h)
 | succ m1=>
 rw [r18_SameRows_l1] at h
 rw [q_ar hE,q_cm hE,q_ll hE,←hR] at h
 cbv
 refine L_if hE h (fun h=>?_) (fun h=>?_)<;>cbv
 · refine L_whole hE lay_ok (by kernel_rfl) (by kernel_rfl) ?_;cbv
   refine L_rowL hE hR h fun r2 h=>?_;cbv
   refine L_rowL hE hR h fun r3 h=>?_;cbv
   refine L_pcall hE hR h (fun _ e=>porterbase_SameInts_w e) (by subst hR;rfl) rfl fun a4 h=>?_;cbv
   refine L_if hE h (fun h=>?_) (fun h=>?_)<;>cbv
   · refine hT1 _ ?_
     exact And.left (hQ _ _ _ rfl rfl (by cases h;subst hR;rfl))
   refine hN1 _ (_,m1) [] h (Nat.lt_succ_self _) trivial ?_;(cbv;(try simp only [e_rnil hR]);repeat' (first | exact trivial | exact rfl | exact Or.inr trivial | apply And.intro))
 refine hX1 _ _ ?_;cbv
 exact And.left (hQ _ _ _ rfl rfl (by cases h;subst hR;rfl))
end Gn
end Go.Proofs.YtjhbgkakhaonaaaGreatDoor
namespace Go.Proofs.YtjhbgkakhaonaaaGreatDoor
open Go Go.RowKit
open Ab Sh
namespace Gn
theorem r18_Same_w {N:Nat} {p0:GDfa} {p1:GDfa} {r:Bool} (h:r18_Same_g N p0 p1=some r):FunS Tryz.prog 18 [.agg [fI .i64 p0.Start,.t (.slc (rw _ cB p0.Final)),.t (.slc (rw _ (cI .i64) p0.Block)),.t (.slc (rw _ (cLs (cI .i64)) p0.Next))],.agg [fI .i64 p1.Start,.t (.slc (rw _ cB p1.Final)),.t (.slc (rw _ (cI .i64) p1.Block)),.t (.slc (rw _ (cLs (cI .i64)) p1.Next))]] (r18_Same_s rw) r:=by
 refine fun_w lay_ok Tryz.call18 Tryz.func18 rfl ?_
 intro A W E Q R hE hR hf hQ;rcases W with ⟨ar,cm,conj,cv,sl,sc,ct,sa,ss,ll,_,_,_,_,mi,mx,_,_,_,_,_⟩
 rw [←hR]
 unfold r18_Same_g at h
 rw [q_cm hE] at h
 cbv
 refine L_rgJ hE lay_ok h 2 (fun j1:Bool=>[(4,fB j1)]) (fun j1=>[]) (fun j1 h=>?_) (fun j1 h=>?_)<;>cbv
 · refine L_if hE h (fun h=>?_) (fun h=>?_)<;>cbv
   · refine L_call hE hR h (fun _ e=>porterbase_SameBools_w e) (by subst hR;rfl) rfl fun a1 h=>?_;cbv
     refine L_if hE h (fun h=>?_) (fun h=>?_)<;>cbv
     · refine L_call hE hR h (fun _ e=>porterbase_SameInts_w e) (by subst hR;rfl) rfl fun a2 h=>?_;cbv
       refine L_if hE h (fun h=>?_) (fun h=>?_)<;>cbv
       · refine L_call hE hR h (fun _ e=>r18_SameRows_w e) (by subst hR;rfl) rfl fun a3 h=>?_;cbv
         cases h;(cbv;(try simp only [e_rnil hR]);repeat' (first | exact trivial | exact rfl | exact Or.inr trivial | apply And.intro))
       cases h;(cbv;(try simp only [e_rnil hR]);repeat' (first | exact trivial | exact rfl | exact Or.inr trivial | apply And.intro))
     cases h;(cbv;(try simp only [e_rnil hR]);repeat' (first | exact trivial | exact rfl | exact Or.inr trivial | apply And.intro))
   cases h;(cbv;(try simp only [e_rnil hR]);repeat' (first | exact trivial | exact rfl | exact Or.inr trivial | apply And.intro))
 exact And.left (hQ _ _ _ rfl rfl (by cases h;subst hR;rfl))
theorem l18_DfaOf_w {N:Nat} {p0:GSpots} {r:Bool} (h:l18_DfaOf_g N p0=some r):FunS Tryz.prog 4 [.agg [.t (.slc (rw _ cSet p0.Sets)),fB p0.None,.t (.slc (rw _ (cI .i64) p0.First)),.t (.slc (rw _ (cI .i64) p0.Last)),.t (.slc (rw _ (cLs (cI .i64)) p0.Next))]] (l18_DfaOf_s rw) r:=by
 refine fun_w lay_ok Tryz.call4 Tryz.func4 rfl ?_
 intro A W E Q R hE hR hf hQ;rcases W with ⟨ar,cm,conj,cv,sl,sc,ct,sa,ss,ll,_,_,_,_,mi,mx,_,_,_,_,_⟩
 rw [←hR]
 unfold l18_DfaOf_g at h
 rw [q_cm hE] at h
 cbv
 refine L_call hE hR h (fun _ e=>l18_Small_w e) (by subst hR;rfl) rfl fun a1 h=>?_;cbv
 refine L_if hE h (fun h=>?_) (fun h=>?_)<;>cbv
 · refine L_call hE hR h (fun _ e=>l18_works_w e) rfl rfl fun a2 h=>?_;cbv
   exact And.left (hQ _ _ _ rfl rfl (by cases h;subst hR;rfl))
 refine L_call hE hR h (fun _ e=>dfa_Of_w e) (by subst hR;rfl) rfl fun a3 h=>?_;cbv
 refine L_call hE hR h (fun _ e=>r18_Of_w e) (by subst hR;rfl) rfl fun a4 h=>?_;cbv
 refine L_rgJ hE lay_ok h 3 (fun j1:Bool=>[(2,fB j1)]) (fun j1=>[]) (fun j1 h=>?_) (fun j1 h=>?_)<;>cbv
 · refine L_call hE hR h (fun _ e=>r18_Same_w e) (by subst hR;rfl) rfl fun a5 h=>?_;cbv
   refine L_if hE h (fun h=>?_) (fun h=>?_)<;>cbv
   · refine L_if hE h (fun h=>?_) (fun h=>?_)<;>cbv
     · refine L_call hE hR h (fun _ e=>l18_works_w e) rfl rfl fun a6 h=>?_;cbv
       cases h;(cbv;(try simp only [e_rnil hR]);repeat' (first | exact trivial | exact rfl | exact Or.inr trivial | apply And.intro))
     cases h;(cbv;(try simp only [e_rnil hR]);repeat' (first | exact trivial | exact rfl | exact Or.inr trivial | apply And.intro))
   cases h;(cbv;(try simp only [e_rnil hR]);repeat' (first | exact trivial | exact rfl | exact Or.inr trivial | apply And.intro))
 exact And.left (hQ _ _ _ rfl rfl (by cases h;subst hR;rfl))
end Gn
end Go.Proofs.YtjhbgkakhaonaaaGreatDoor
namespace Go.Proofs.YtjhbgkakhaonaaaGreatDoor
open Go Go.RowKit Go.ChangeShapes Go.WideShapes
theorem addr_off (b o j:Nat):(⟨b,o,none⟩:Addr).add j=⟨b,o+j,none⟩:=by simp [Addr.add]
def Fits (A:Option Addr) (n cap:Nat):Prop:=n≤cap∧(A=none→cap=0)
theorem Fits.none_:Fits none 0 0:=⟨Nat.le_refl _,fun _=>rfl⟩
section
variable {α:Type}
def RowsAt (n:Nat) (R:α→List Value→Prop) (G:Nat→Prop) (w:World) (A:Option Addr) (xs:List α):Prop:=
 0<xs.length→∃b o,A=some ⟨b,o,none⟩∧G b∧∀(k:Nat) (h:k<xs.length),∃cs,R xs[k] cs∧∀j u,cs[j]?=some u→w.cell? ⟨b,o+k*n+j,none⟩=some u
theorem rows_nil {n:Nat} {R:α→List Value→Prop} {G:Nat→Prop} {w:World} {A:Option Addr}:RowsAt n R G w A ([]:List α):=fun h=>absurd h (by simp)
end
section
variable {H:Type} {enc:TypeId × Value→H} {P:Program} {W:World} {sp:Nat→Bool} {held:Bool}
theorem cell_place {a:Addr} {u:Value} (h:W.cell? a=some u):a=⟨a.block,a.off,none⟩∧a.block<W.heap.size:=by
 unfold World.cell? at h
 cases hb:W.heap[a.block]? with
 | none=>rw [hb] at h;cases h
 | some o=>
   rw [hb] at h
   refine ⟨?_,(Array.getElem?_eq_some_iff.1 hb).1⟩
   cases o with
   | cells c t fr=>
     dsimp only at h
     cases hs:a.spot with
     | none=>cases a;simp at hs;subst hs;rfl
     | some x=>rw [hs] at h;simp at h
   | _=>cases h
theorem rows_open {α:Type} {T e:TypeId} {n:Nat} {R:α→List Value→Prop} (hT:P.underlying T=some (.slice e)) (hn:P.cellsOf e=n) (hn0:0<n)
 (hR:∀(fuel:Nat) (cs:List Value) (x:DataW H × List MemPlace),DataW.trod enc P W 0 sp held fuel e cs=some x→∃a,R a cs∧cs.length=n) {fuel:Nat} {v:Value} {x:DataW H × List MemPlace}
 (h:DataW.trod enc P W 0 sp held fuel T [v]=some x):∃(A:Option Addr) (xs:List α) (cap:Nat),v=.slice A xs.length cap∧Fits A xs.length cap∧xs.length≤maxLen∧RowsAt n R (fun b=>b<W.heap.size) W A xs:=by
 rcases DataW.trod_slice hT h with ⟨e5,-⟩ | ⟨a,len,cap,elems,rest,m,rfl,e5,-,-,hlc,hcm,hel,hat,-,-⟩
 · injection e5 with e5 _
   exact ⟨none,[],0,e5,Fits.none_,Nat.zero_le _,rows_nil⟩
 · injection e5 with e5 _
   rw [hn] at hat
   have key:∀i,i≤len→∃(xs:List α),xs.length=i∧∀(k:Nat) (hk:k<xs.length),∃cs,R xs[k] cs∧cs.length=n∧∀j u,cs[j]?=some u→W.cell? (a.add (k*n+j))=some u:=by
    intro i
    induction i with
    | zero=>intro _;exact ⟨[],rfl,fun k hk=>absurd hk (by simp)⟩
    | succ i ih=>
      intro hi
      obtain ⟨xs,hl,hc⟩:=ih (by omega)
      have h1:=hat i (by omega)
      rw [List.getElem?_eq_getElem (by omega)] at h1
      obtain ⟨cs',h2,h3⟩:=Option.bind_eq_some_iff.1 h1
      obtain ⟨y,hy,hyl⟩:=hR m cs' _ h3
      obtain ⟨_,_,h4⟩:=World.cells?_some h2
      refine ⟨xs++[y],by rw [List.length_append,hl];rfl,fun k hk=>?_⟩
      rcases Nat.lt_or_ge k xs.length with hlt | hge
      · obtain ⟨cs,h5,h6,h7⟩:=hc k hlt
        refine ⟨cs,?_,h6,h7⟩
        rw [List.getElem_append_left hlt]
        exact h5
      · have hkl:k<xs.length+1:=by simpa using hk
        obtain rfl:k=xs.length:=by omega
        refine ⟨cs',?_,hyl,fun j u hj=>?_⟩
        · rw [List.getElem_append_right (Nat.le_refl _)]
          simpa using hy
        · have hj':j<n:=by rw [←hyl];exact (List.getElem?_eq_some_iff.1 hj).1
          have h8:=h4 j hj'
          rw [hj,Go.Deep.add_add,←hl] at h8
          exact h8
   obtain ⟨xs,hl,hc⟩:=key len (Nat.le_refl _)
   subst hl
   refine ⟨some a,xs,cap,e5,⟨hlc,fun h=>by cases h⟩,Nat.le_trans hlc hcm,fun hpos=>?_⟩
   obtain ⟨cs0,_,hl0,h0⟩:=hc 0 hpos
   have h1:=h0 0 _ (List.getElem?_eq_getElem (by omega))
   have ha0:a.add (0*n+0)=a:=by unfold Addr.add;simp
   rw [ha0] at h1
   obtain ⟨h2,h3⟩:=cell_place h1
   refine ⟨a.block,a.off,congrArg some h2,h3,fun k hk=>?_⟩
   obtain ⟨cs,h4,_,h5⟩:=hc k hk
   refine ⟨cs,h4,fun j u hj=>?_⟩
   have h6:=h5 j u hj
   rw [h2,addr_off,←Nat.add_assoc] at h6
   exact h6
end
end Go.Proofs.YtjhbgkakhaonaaaGreatDoor
