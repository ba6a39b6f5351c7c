/- Texts that the proof leans on. -/
import Derived.Test.YtbpihhelojjedaaDoorK322
import Derived.Test.YtbpihhelojjedaaDoorK328
set_option linter.unusedVariables false
set_option linter.unusedSimpArgs false
set_option maxRecDepth 100000
set_option maxHeartbeats 4000000
namespace Go.Proofs.YtbpihhelojjedaaDoor
open Go Go.RowKit
open Ab Sh
namespace Gn
theorem spots_rising_w {N:Nat} {p0:List Int} {p1:Int} {r:Bool} (h:spots_rising_g N p0 p1=some r):FunS Tryd.prog 20 [.t (.slc (rw _ (cI .i64) p0)),fI .i64 p1] (spots_rising_s rw) r:=by
 refine fun_w lay_ok Tryd.call20 Tryd.func20 rfl ?_
 intro A W E Q R hE hR hf hQ;rcases W with ⟨ar,cm,conj,cv,sl,sc,ct,sa,ss,ll,_,_,_,_,mi,mx,_,_,_⟩
 rw [←hR]
 unfold spots_rising_g at h
 skip
 cbv
 refine L_for hE lay_ok 0 (fun g:Int × Int × Nat=>[(4,fB false),(5,fI .i64 g.1),(10,fI .i64 g.2.1)]) (fun g=>[]) (fun g=>spots_rising_l1 p0 p1 g.2.2 g.1 g.2.1=some r) (fun g=>g.2.2) (_,_,N) h ?_ ?_
 · (cbv;(try simp only [e_rnil hR]);repeat' (first | exact trivial | exact rfl | exact Or.inr trivial | apply And.intro))
 rintro ⟨v1,v2,m1⟩ h Q1 hN1 hT1 hX1
 have h:spots_rising_l1 p0 p1 m1 v1 v2=some r:=h
 cases m1 with
 | zero=>exact nomatch (show (none:Option _)=some _ from h)
 | succ m1=>
 rw [spots_rising_l1] at h
 rw [q_ar hE,q_cm hE,q_ll hE,←hR] at h
 cbv
 refine L_if hE h (fun h=>?_) (fun h=>?_)<;>cbv
 · refine L_row hE hR h fun r3 h=>?_;cbv
   refine L_rgJ hE lay_ok h 0 (fun j2:Bool=>[(21,fB j2)]) (fun j2=>[]) (fun j2 h=>?_) (fun j2 h=>?_)<;>cbv
   · refine L_if hE h (fun h=>?_) (fun h=>?_)<;>cbv
     · cases h;(cbv;(try simp only [e_rnil hR]);repeat' (first | exact trivial | exact rfl | exact Or.inr trivial | apply And.intro))
     cases h;(cbv;(try simp only [e_rnil hR]);repeat' (first | exact trivial | exact rfl | exact Or.inr trivial | apply And.intro))
   refine L_if hE h (fun h=>?_) (fun h=>?_)<;>cbv
   · refine hT1 _ ?_
     exact And.left (hQ _ _ _ rfl rfl (by cases h;subst hR;rfl))
   refine hN1 _ (_,_,m1) [] h (Nat.lt_succ_self _) trivial ?_;(cbv;(try simp only [e_rnil hR]);repeat' (first | exact trivial | exact rfl | exact Or.inr trivial | apply And.intro))
 refine hX1 _ _ ?_;cbv
 exact And.left (hQ _ _ _ rfl rfl (by cases h;subst hR;rfl))
theorem spots_Right_w {N:Nat} {p0:GSpots} {r:Bool} (h:spots_Right_g N p0=some r):FunS Tryd.prog 7 [.agg [.t (.slc (rw _ cSet p0.Sets)),fB p0.None,.t (.slc (rw _ (cI .i64) p0.First)),.t (.slc (rw _ (cI .i64) p0.Last)),.t (.slc (rw _ (cLs (cI .i64)) p0.Next))]] (spots_Right_s rw) r:=by
 refine fun_w lay_ok Tryd.call7 Tryd.func7 rfl ?_
 intro A W E Q R hE hR hf hQ;rcases W with ⟨ar,cm,conj,cv,sl,sc,ct,sa,ss,ll,_,_,_,_,mi,mx,_,_,_⟩
 rw [←hR]
 unfold spots_Right_g at h
 rw [q_cm hE,q_ll hE,←hR] at h
 cbv
 refine L_rgJ hE lay_ok h 2 (fun j1:Bool=>[(29,fB j1)]) (fun j1=>[]) (fun j1 h=>?_) (fun j1 h=>?_)<;>cbv
 · refine L_if hE h (fun h=>?_) (fun h=>?_)<;>cbv
   · cases h;(cbv;(try simp only [e_rnil hR]);repeat' (first | exact trivial | exact rfl | exact Or.inr trivial | apply And.intro))
   refine L_if hE h (fun h=>?_) (fun h=>?_)<;>cbv
   · cases h;(cbv;(try simp only [e_rnil hR]);repeat' (first | exact trivial | exact rfl | exact Or.inr trivial | apply And.intro))
   refine L_call hE hR h (fun _ e=>spots_rising_w e) (by subst hR;rfl) rfl fun a1 h=>?_;cbv
   refine L_if hE h (fun h=>?_) (fun h=>?_)<;>cbv
   · cases h;(cbv;(try simp only [e_rnil hR]);repeat' (first | exact trivial | exact rfl | exact Or.inr trivial | apply And.intro))
   refine L_call hE hR h (fun _ e=>spots_rising_w e) (by subst hR;rfl) rfl fun a2 h=>?_;cbv
   cases h;(cbv;(try simp only [e_rnil hR]);repeat' (first | exact trivial | exact rfl | exact Or.inr trivial | apply And.intro))
 refine L_if hE h (fun h=>?_) (fun h=>?_)<;>cbv
 · exact And.left (hQ _ _ _ rfl rfl (by cases h;subst hR;rfl))
 refine L_keep hE lay_ok Tryd.call21 Tryd.func21 rfl ?_
 intro A1 E1 Q1 hE1 hf1 hQ1;cbv
 refine L_keep hE1 lay_ok Tryd.call44 Tryd.func44 rfl ?_
 intro A2 E2 Q2 hE2 hf2 hQ2;cbv
 refine L_for hE2 lay_ok 2 (fun g:Int × Nat=>[(4,fI .i64 0),(8,fI .i64 g.1)]) (fun g=>[]) (fun g=>spots_Right_l3 N p0 g.2 g.1=some r) (fun g=>g.2) (_,N) h ?_ ?_
 · (cbv;(try simp only [e_rnil hR]);repeat' (first | exact trivial | exact rfl | exact Or.inr trivial | apply And.intro))
 rintro ⟨v3,m3⟩ h Q3 hN3 hT3 hX3
 have h:spots_Right_l3 N p0 m3 v3=some r:=h
 cases m3 with
 | zero=>exact nomatch (show (none:Option _)=some _ from h)
 | succ m3=>
 rw [spots_Right_l3] at h
 rw [q_ar hE,q_cm hE,q_ll hE,←hR] at h
 cbv
 refine L_if hE2 h (fun h=>?_) (fun h=>?_)<;>cbv
 · refine L_rowL hE2 hR h fun r4 h=>?_;cbv
   refine L_keep hE2 lay_ok Tryd.call22 Tryd.func22 rfl ?_
   intro A4 E4 Q4 hE4 hf4 hQ4;cbv
   refine L_call hE4 hR h (fun _ e=>spots_rising_w e) (by subst hR;rfl) rfl fun a5 h=>?_;cbv
   refine And.left (hQ4 _ _ rfl ?_);cbv
   refine L_if hE2 h (fun h=>?_) (fun h=>?_)<;>cbv
   · refine hT3 _ ?_
     refine And.left (hQ2 _ _ rfl ?_);cbv
     refine And.left (hQ1 _ _ rfl ?_);cbv
     exact And.left (hQ _ _ _ rfl rfl (by cases h;subst hR;rfl))
   refine hN3 _ (_,m3) [] h (Nat.lt_succ_self _) trivial ?_;(cbv;(try simp only [e_rnil hR]);repeat' (first | exact trivial | exact rfl | exact Or.inr trivial | apply And.intro))
 refine hX3 _ _ ?_;cbv
 refine And.left (hQ2 _ _ rfl ?_);cbv
 refine And.left (hQ1 _ _ rfl ?_);cbv
 exact And.left (hQ _ _ _ rfl rfl (by cases h;subst hR;rfl))
theorem spots_Match_w {N:Nat} {p0:GSpots} {p1:ByteArray} {r:Bool} (h:spots_Match_g N p0 p1=some r):FunS Tryd.prog 9 [.agg [.t (.slc (rw _ cSet p0.Sets)),fB p0.None,.t (.slc (rw _ (cI .i64) p0.First)),.t (.slc (rw _ (cI .i64) p0.Last)),.t (.slc (rw _ (cLs (cI .i64)) p0.Next))],fS p1] (spots_Match_s rw) r:=by
 refine fun_w lay_ok Tryd.call9 Tryd.func9 rfl ?_
 intro A W E Q R hE hR hf hQ;rcases W with ⟨ar,cm,conj,cv,sl,sc,ct,sa,ss,ll,_,_,_,_,mi,mx,_,_,_⟩
 rw [←hR]
 unfold spots_Match_g at h
 rw [q_cm hE,q_sl hE,q_sc hE,q_ll hE,←hR] at h
 cbv
 refine L_call hE hR h (fun _ e=>spots_Right_w e) (by subst hR;rfl) rfl fun a1 h=>?_;cbv
 refine L_if hE h (fun h=>?_) (fun h=>?_)<;>cbv
 · exact And.left (hQ _ _ _ rfl rfl (by cases h;subst hR;rfl))
 refine L_if hE h (fun h=>?_) (fun h=>?_)<;>cbv
 · exact And.left (hQ _ _ _ rfl rfl (by cases h;subst hR;rfl))
 refine L_zro hE hR h (by decide) fun l2 e h=>?_;cbv at e;rw [e];clear e
 have hp1:=h
 refine L_for hE lay_ok 3 (fun g:Option (Int ×(List Bool)×(List Int)× Nat)=>match g with | none=>[(6,.t (.slc (R _ (cI .i64) p0.First))),(28,.lst 1),(33,fI .i64 0)] | some g=>[(6,.lst 3),(28,.lst 1),(33,fI .i64 g.1),(36,.lst 1),(65,.lst 1)]) (fun g=>match g with | none=>[(1,.list 4 1 (R _ cB l2))] | some g=>[(1,.list 4 1 (R _ cB g.2.1)),(3,.list 3 1 (R _ (cI .i64) g.2.2.1))]) (fun g=>match g with | none=>True | some g=>spots_Match_l1 N p0 p1 g.2.2.2 g.1 g.2.1 g.2.2.1=some r) (fun g=>match g with | none=>N+1 | some g=>g.2.2.2) none trivial ?_ ?_
 · (cbv;(try simp only [e_rnil hR]);repeat' (first | exact trivial | exact rfl | exact Or.inr trivial | apply And.intro))
 rintro (_ | ⟨v35,v36,v37,m1⟩) h Q1 hN1 hT1 hX1
 · have h:=hp1
   cbv
   refine L_if hE h (fun h=>?_) (fun h=>?_)<;>cbv
   · refine L_clr0 (e:=cB) hR hE h fun l3 e h=>?_;cbv at e;rw [e];clear e
     refine L_for hE lay_ok 3 (fun g:Int ×(List Bool)×(List Int)× Nat=>[(8,.lst 3),(28,.lst 1),(36,.lst 1),(39,fI .i64 g.1)]) (fun g=>[(1,.list 4 1 (R _ cB g.2.1)),(3,.list 3 1 (R _ (cI .i64) g.2.2.1))]) (fun g=>spots_Match_l2 N p0 p1 g.2.2.2 g.1 g.2.1 g.2.2.1=some r) (fun g=>g.2.2.2) (_,_,_,N) h ?_ ?_
     · (cbv;(try simp only [e_rnil hR]);repeat' (first | exact trivial | exact rfl | exact Or.inr trivial | apply And.intro))
     rintro ⟨v4,v5,v6,m2⟩ h Q2 hN2 hT2 hX2
     have h:spots_Match_l2 N p0 p1 m2 v4 v5 v6=some r:=h
     cases m2 with
     | zero=>exact nomatch (show (none:Option _)=some _ from h)
     | succ m2=>
     rw [spots_Match_l2] at h
     rw [q_ar hE,q_cm hE,q_sl hE,q_sa hE,q_ll hE,←hR] at h
     cbv
     refine L_if hE h (fun h=>?_) (fun h=>?_)<;>cbv
     · refine L_row hE hR h fun r7 h=>?_;cbv
       refine L_whole hE lay_ok (by kernel_rfl) (by kernel_rfl) ?_;cbv
       refine L_row hE hR h fun r8 h=>?_;cbv
       refine L_sin hE h fun h=>?_
       refine L_pcall hE hR h (fun _ e=>charset_Has_w e) rfl rfl fun a9 h=>?_;cbv
       refine L_cdJ hE lay_ok h 13 (fun j370:(List Bool)×(List Int)=>[(8,.lst 3)]) (fun j370=>[(1,.list 4 1 (R _ cB j370.1)),(3,.list 3 1 (R _ (cI .i64) j370.2))]) (fun j370 h=>?_) (fun j370 h=>?_)<;>cbv
       · refine L_if hE h (fun h=>?_) (fun h=>?_)<;>cbv
         · refine L_row hE hR h fun r10 h=>?_;cbv
           refine L_row hE hR h fun r11 h=>?_;cbv
           refine L_put hE hR h fun l12 e h=>?_;cbv at e;rw [e];clear e
           refine L_appL hE hR h rfl (hf _) (fun _=>rfl) (by decide) fun l13 e h=>?_;cbv at e;rw [e];clear e
           cases h;(cbv;(try simp only [e_rnil hR]);repeat' (first | exact trivial | exact rfl | exact Or.inr trivial | apply And.intro))
         cases h;(cbv;(try simp only [e_rnil hR]);repeat' (first | exact trivial | exact rfl | exact Or.inr trivial | apply And.intro))
       refine hN2 _ (_,_,_,m2) [] h (Nat.lt_succ_self _) trivial ?_;(cbv;(try simp only [e_rnil hR]);repeat' (first | exact trivial | exact rfl | exact Or.inr trivial | apply And.intro))
     refine hX2 _ _ ?_;cbv
     refine L_if hE h (fun h=>?_) (fun h=>?_)<;>cbv
     · refine hX1 _ _ ?_;cbv
       refine L_keep hE lay_ok Tryd.call25 Tryd.func25 rfl ?_
       intro A3 E3 Q3 hE3 hf3 hQ3;cbv
       refine L_keep hE3 lay_ok Tryd.call45 Tryd.func45 rfl ?_
       intro A4 E4 Q4 hE4 hf4 hQ4;cbv
       refine L_for hE4 lay_ok 4 (fun g:Int × Nat=>[(4,fI .i64 0),(8,fI .i64 g.1)]) (fun g=>[]) (fun g=>spots_Match_l5 p0 v5 g.2 g.1=some r) (fun g=>g.2) (_,N) h ?_ ?_
       · (cbv;(try simp only [e_rnil hR]);repeat' (first | exact trivial | exact rfl | exact Or.inr trivial | apply And.intro))
       rintro ⟨v14,m5⟩ h Q5 hN5 hT5 hX5
       have h:spots_Match_l5 p0 v5 m5 v14=some r:=h
       cases m5 with
       | zero=>exact nomatch (show (none:Option _)=some _ from h)
       | succ m5=>
       rw [spots_Match_l5] at h
       rw [q_ar hE,q_cm hE,q_ll hE,←hR] at h
       cbv
       refine L_if hE4 h (fun h=>?_) (fun h=>?_)<;>cbv
       · refine L_row hE4 hR h fun r15 h=>?_;cbv
         refine L_keep hE4 lay_ok Tryd.call26 Tryd.func26 rfl ?_
         intro A6 E6 Q6 hE6 hf6 hQ6;cbv
         refine L_row hE6 hR h fun r16 h=>?_;cbv
         refine L_row hE6 hR h fun r17 h=>?_;cbv
         refine And.left (hQ6 _ _ rfl ?_);cbv
         refine L_if hE4 h (fun h=>?_) (fun h=>?_)<;>cbv
         · refine hT5 _ ?_
           refine And.left (hQ4 _ _ rfl ?_);cbv
           refine And.left (hQ3 _ _ rfl ?_);cbv
           exact And.left (hQ _ _ _ rfl rfl (by cases h;subst hR;rfl))
         refine hN5 _ (_,m5) [] h (Nat.lt_succ_self _) trivial ?_;(cbv;(try simp only [e_rnil hR]);repeat' (first | exact trivial | exact rfl | exact Or.inr trivial | apply And.intro))
       refine hX5 _ _ ?_;cbv
       refine And.left (hQ4 _ _ rfl ?_);cbv
       refine And.left (hQ3 _ _ rfl ?_);cbv
       exact And.left (hQ _ _ _ rfl rfl (by cases h;subst hR;rfl))
     refine L_zro hE hR h (by decide) fun l18 e h=>?_;cbv at e;rw [e];clear e
     refine L_for hE lay_ok 5 (fun g:Int ×(List Bool)× Nat=>[(8,.lst 3),(11,.lst 4),(28,.lst 1),(36,.lst 1),(65,.lst 1),(67,.lst 4),(68,.lst 3),(70,fI .i64 g.1)]) (fun g=>[(4,.list 4 1 (R _ cB g.2.1))]) (fun g=>spots_Match_l7 N p0 p1 v6 v5 g.2.2 g.1 g.2.1=some r) (fun g=>g.2.2) (_,_,N) h ?_ ?_
     · (cbv;(try simp only [e_rnil hR]);repeat' (first | exact trivial | exact rfl | exact Or.inr trivial | apply And.intro))
     rintro ⟨v19,v20,m7⟩ h Q7 hN7 hT7 hX7
     have h:spots_Match_l7 N p0 p1 v6 v5 m7 v19 v20=some r:=h
     cases m7 with
     | zero=>exact nomatch (show (none:Option _)=some _ from h)
     | succ m7=>
     rw [spots_Match_l7] at h
     rw [q_cm hE,q_ll hE,←hR] at h
     cbv
     refine L_if hE h (fun h=>?_) (fun h=>?_)<;>cbv
     · refine L_row hE hR h fun r21 h=>?_;cbv
       refine L_row hE hR h fun r22 h=>?_;cbv
       refine L_rowL hE hR h fun r23 h=>?_;cbv
       refine L_for hE lay_ok 5 (fun g:Int ×(List Bool)× Nat=>[(8,.lst 3),(11,.lst 4),(28,.lst 1),(36,.lst 1),(65,.lst 1),(67,.lst 4),(68,.lst 3),(72,.elt 3 v19 0),(80,fI .i64 g.1)]) (fun g=>[(4,.list 4 1 (R _ cB g.2.1))]) (fun g=>spots_Match_l8 (spots_Match_l7 N p0 p1 v6 v5 m7) v19 r23 g.2.2 g.1 g.2.1=some r) (fun g=>g.2.2) (_,_,N) h ?_ ?_
       · (cbv;(try simp only [e_rnil hR]);repeat' (first | exact trivial | exact rfl | exact Or.inr trivial | apply And.intro))
       rintro ⟨v24,v25,m8⟩ h Q8 hN8 hT8 hX8
       have h:spots_Match_l8 (spots_Match_l7 N p0 p1 v6 v5 m7) v19 r23 m8 v24 v25=some r:=h
       cases m8 with
       | zero=>exact nomatch (show (none:Option _)=some _ from h)
       | succ m8=>
       rw [spots_Match_l8] at h
       rw [q_ar hE,q_cm hE,q_ll hE,←hR] at h
       cbv
       refine L_if hE h (fun h=>?_) (fun h=>?_)<;>cbv
       · refine L_row hE hR h fun r26 h=>?_;cbv
         refine L_row hE hR h fun r27 h=>?_;cbv
         refine L_row hE hR h fun r28 h=>?_;cbv
         refine L_put hE hR h fun l29 e h=>?_;cbv at e;rw [e];clear e
         refine hN8 _ (_,_,m8) [] h (Nat.lt_succ_self _) trivial ?_;(cbv;(try simp only [e_rnil hR]);repeat' (first | exact trivial | exact rfl | exact Or.inr trivial | apply And.intro))
       refine hX8 _ _ ?_;cbv
       refine hN7 _ (_,_,m7) [] h (Nat.lt_succ_self _) trivial ?_;(cbv;(try simp only [e_rnil hR]);repeat' (first | exact trivial | exact rfl | exact Or.inr trivial | apply And.intro))
     refine hX7 _ _ ?_;cbv
     refine L_for hE lay_ok 6 (fun g:Int ×(List Int)× Nat=>[(6,.lst 5),(8,.lst 3),(11,.lst 4),(28,.lst 1),(36,.lst 1),(65,.lst 1),(67,.lst 4),(68,.lst 3),(91,.lst 4),(93,fI .i64 g.1)]) (fun g=>[(5,.list 3 1 (R _ (cI .i64) g.2.1))]) (fun g=>spots_Match_l9 N p0 p1 v20 v5 g.2.2 g.1 g.2.1=some r) (fun g=>g.2.2) (_,_,N) h ?_ ?_
     · (cbv;(try simp only [e_rnil hR]);repeat' (first | exact trivial | exact rfl | exact Or.inr trivial | apply And.intro))
     rintro ⟨v30,v31,m9⟩ h Q9 hN9 hT9 hX9
     have h:spots_Match_l9 N p0 p1 v20 v5 m9 v30 v31=some r:=h
     cases m9 with
     | zero=>exact nomatch (show (none:Option _)=some _ from h)
     | succ m9=>
     rw [spots_Match_l9] at h
     rw [q_ar hE,q_cm hE,q_ll hE,←hR] at h
     cbv
     refine L_if hE h (fun h=>?_) (fun h=>?_)<;>cbv
     · refine L_row hE hR h fun r32 h=>?_;cbv
       refine L_row hE hR h fun r33 h=>?_;cbv
       refine L_cdJ hE lay_ok h 6 (fun j566:(List Int)=>[(6,.lst 5)]) (fun j566=>[(5,.list 3 1 (R _ (cI .i64) j566))]) (fun j566 h=>?_) (fun j566 h=>?_)<;>cbv
       · refine L_if hE h (fun h=>?_) (fun h=>?_)<;>cbv
         · refine L_appL hE hR h rfl (hf _) (fun _=>rfl) (by decide) fun l34 e h=>?_;cbv at e;rw [e];clear e
           cases h;(cbv;(try simp only [e_rnil hR]);repeat' (first | exact trivial | exact rfl | exact Or.inr trivial | apply And.intro))
         cases h;(cbv;(try simp only [e_rnil hR]);repeat' (first | exact trivial | exact rfl | exact Or.inr trivial | apply And.intro))
       refine hN9 _ (_,_,m9) [] h (Nat.lt_succ_self _) trivial ?_;(cbv;(try simp only [e_rnil hR]);repeat' (first | exact trivial | exact rfl | exact Or.inr trivial | apply And.intro))
     refine hX9 _ _ ?_;cbv
     refine hN1 _ (some (_,_,_,N)) [(3,5)] h (Nat.lt_succ_self _) ⟨hf _,hf _,trivial⟩ ?_;(cbv;(try simp only [e_rnil hR]);repeat' (first | exact trivial | exact rfl | exact Or.inr trivial | apply And.intro))
   refine hX1 _ _ ?_;cbv
   refine L_keep hE lay_ok Tryd.call25 Tryd.func25 rfl ?_
   intro A22 E22 Q22 hE22 hf22 hQ22;cbv
   refine L_keep hE22 lay_ok Tryd.call45 Tryd.func45 rfl ?_
   intro A23 E23 Q23 hE23 hf23 hQ23;cbv
   refine L_for hE23 lay_ok 3 (fun g:Int × Nat=>[(4,fI .i64 0),(8,fI .i64 g.1)]) (fun g=>[]) (fun g=>spots_Match_l24 p0 l2 g.2 g.1=some r) (fun g=>g.2) (_,N) h ?_ ?_
   · (cbv;(try simp only [e_rnil hR]);repeat' (first | exact trivial | exact rfl | exact Or.inr trivial | apply And.intro))
   rintro ⟨v75,m24⟩ h Q24 hN24 hT24 hX24
   have h:spots_Match_l24 p0 l2 m24 v75=some r:=h
   cases m24 with
   | zero=>exact nomatch (show (none:Option _)=some _ from h)
   | succ m24=>
   rw [spots_Match_l24] at h
   rw [q_ar hE,q_cm hE,q_ll hE,←hR] at h
   cbv
   refine L_if hE23 h (fun h=>?_) (fun h=>?_)<;>cbv
   · refine L_row hE23 hR h fun r76 h=>?_;cbv
     refine L_keep hE23 lay_ok Tryd.call26 Tryd.func26 rfl ?_
     intro A25 E25 Q25 hE25 hf25 hQ25;cbv
     refine L_row hE25 hR h fun r77 h=>?_;cbv
     refine L_row hE25 hR h fun r78 h=>?_;cbv
     refine And.left (hQ25 _ _ rfl ?_);cbv
     refine L_if hE23 h (fun h=>?_) (fun h=>?_)<;>cbv
     · refine hT24 _ ?_
       refine And.left (hQ23 _ _ rfl ?_);cbv
       refine And.left (hQ22 _ _ rfl ?_);cbv
       exact And.left (hQ _ _ _ rfl rfl (by cases h;subst hR;rfl))
     refine hN24 _ (_,m24) [] h (Nat.lt_succ_self _) trivial ?_;(cbv;(try simp only [e_rnil hR]);repeat' (first | exact trivial | exact rfl | exact Or.inr trivial | apply And.intro))
   refine hX24 _ _ ?_;cbv
   refine And.left (hQ23 _ _ rfl ?_);cbv
   refine And.left (hQ22 _ _ rfl ?_);cbv
   exact And.left (hQ _ _ _ rfl rfl (by cases h;subst hR;rfl))
 have h:spots_Match_l1 N p0 p1 m1 v35 v36 v37=some r:=h
 cases m1 with
 | zero=>exact nomatch (show (none:Option _)=some _ from h)
 | succ m1=>
 rw [spots_Match_l1] at h
 rw [q_cm hE,q_sl hE] at h
 cbv
 refine L_if hE h (fun h=>?_) (fun h=>?_)<;>cbv
 · refine L_clr0 (e:=cB) hR hE h fun l38 e h=>?_;cbv at e;rw [e];clear e
   refine L_for hE lay_ok 4 (fun g:Int ×(List Bool)×(List Int)× Nat=>[(6,.lst 3),(8,.lst 4),(28,.lst 1),(36,.lst 1),(37,.lst 3),(39,fI .i64 g.1),(65,.lst 1)]) (fun g=>[(1,.list 4 1 (R _ cB g.2.1)),(4,.list 3 1 (R _ (cI .i64) g.2.2.1))]) (fun g=>spots_Match_l10 N (spots_Match_l1 N p0 p1 m1) p0 p1 v37 v35 g.2.2.2 g.1 g.2.1 g.2.2.1=some r) (fun g=>g.2.2.2) (_,_,_,N) h ?_ ?_
   · (cbv;(try simp only [e_rnil hR]);repeat' (first | exact trivial | exact rfl | exact Or.inr trivial | apply And.intro))
   rintro ⟨v39,v40,v41,m10⟩ h Q10 hN10 hT10 hX10
   have h:spots_Match_l10 N (spots_Match_l1 N p0 p1 m1) p0 p1 v37 v35 m10 v39 v40 v41=some r:=h
   cases m10 with
   | zero=>exact nomatch (show (none:Option _)=some _ from h)
   | succ m10=>
   rw [spots_Match_l10] at h
   rw [q_ar hE,q_cm hE,q_sl hE,q_sa hE,q_ll hE,←hR] at h
   cbv
   refine L_if hE h (fun h=>?_) (fun h=>?_)<;>cbv
   · refine L_row hE hR h fun r42 h=>?_;cbv
     refine L_row hE hR h fun r43 h=>?_;cbv
     refine L_whole hE lay_ok (by kernel_rfl) (by kernel_rfl) ?_;cbv
     refine L_row hE hR h fun r44 h=>?_;cbv
     refine L_sin hE h fun h=>?_
     refine L_pcall hE hR h (fun _ e=>charset_Has_w e) rfl rfl fun a45 h=>?_;cbv
     refine L_cdJ hE lay_ok h 14 (fun j626:(List Bool)×(List Int)=>[(8,.lst 4)]) (fun j626=>[(1,.list 4 1 (R _ cB j626.1)),(4,.list 3 1 (R _ (cI .i64) j626.2))]) (fun j626 h=>?_) (fun j626 h=>?_)<;>cbv
     · refine L_if hE h (fun h=>?_) (fun h=>?_)<;>cbv
       · refine L_row hE hR h fun r46 h=>?_;cbv
         refine L_row hE hR h fun r47 h=>?_;cbv
         refine L_put hE hR h fun l48 e h=>?_;cbv at e;rw [e];clear e
         refine L_appL hE hR h rfl (hf _) (fun _=>rfl) (by decide) fun l49 e h=>?_;cbv at e;rw [e];clear e
         cases h;(cbv;(try simp only [e_rnil hR]);repeat' (first | exact trivial | exact rfl | exact Or.inr trivial | apply And.intro))
       cases h;(cbv;(try simp only [e_rnil hR]);repeat' (first | exact trivial | exact rfl | exact Or.inr trivial | apply And.intro))
     refine hN10 _ (_,_,_,m10) [] h (Nat.lt_succ_self _) trivial ?_;(cbv;(try simp only [e_rnil hR]);repeat' (first | exact trivial | exact rfl | exact Or.inr trivial | apply And.intro))
   refine hX10 _ _ ?_;cbv
   refine L_if hE h (fun h=>?_) (fun h=>?_)<;>cbv
   · refine hX1 _ _ ?_;cbv
     refine L_keep hE lay_ok Tryd.call25 Tryd.func25 rfl ?_
     intro A11 E11 Q11 hE11 hf11 hQ11;cbv
     refine L_keep hE11 lay_ok Tryd.call45 Tryd.func45 rfl ?_
     intro A12 E12 Q12 hE12 hf12 hQ12;cbv
     refine L_for hE12 lay_ok 5 (fun g:Int × Nat=>[(4,fI .i64 0),(8,fI .i64 g.1)]) (fun g=>[]) (fun g=>spots_Match_l13 p0 v40 g.2 g.1=some r) (fun g=>g.2) (_,N) h ?_ ?_
     · (cbv;(try simp only [e_rnil hR]);repeat' (first | exact trivial | exact rfl | exact Or.inr trivial | apply And.intro))
     rintro ⟨v50,m13⟩ h Q13 hN13 hT13 hX13
     have h:spots_Match_l13 p0 v40 m13 v50=some r:=h
     cases m13 with
     | zero=>exact nomatch (show (none:Option _)=some _ from h)
     | succ m13=>
     rw [spots_Match_l13] at h
     rw [q_ar hE,q_cm hE,q_ll hE,←hR] at h
     cbv
     refine L_if hE12 h (fun h=>?_) (fun h=>?_)<;>cbv
     · refine L_row hE12 hR h fun r51 h=>?_;cbv
       refine L_keep hE12 lay_ok Tryd.call26 Tryd.func26 rfl ?_
       intro A14 E14 Q14 hE14 hf14 hQ14;cbv
       refine L_row hE14 hR h fun r52 h=>?_;cbv
       refine L_row hE14 hR h fun r53 h=>?_;cbv
       refine And.left (hQ14 _ _ rfl ?_);cbv
       refine L_if hE12 h (fun h=>?_) (fun h=>?_)<;>cbv
       · refine hT13 _ ?_
         refine And.left (hQ12 _ _ rfl ?_);cbv
         refine And.left (hQ11 _ _ rfl ?_);cbv
         exact And.left (hQ _ _ _ rfl rfl (by cases h;subst hR;rfl))
       refine hN13 _ (_,m13) [] h (Nat.lt_succ_self _) trivial ?_;(cbv;(try simp only [e_rnil hR]);repeat' (first | exact trivial | exact rfl | exact Or.inr trivial | apply And.intro))
     refine hX13 _ _ ?_;cbv
     refine And.left (hQ12 _ _ rfl ?_);cbv
     refine And.left (hQ11 _ _ rfl ?_);cbv
     exact And.left (hQ _ _ _ rfl rfl (by cases h;subst hR;rfl))
   refine L_zro hE hR h (by decide) fun l54 e h=>?_;cbv at e;rw [e];clear e
   refine L_for hE lay_ok 6 (fun g:Int ×(List Bool)× Nat=>[(6,.lst 3),(8,.lst 4),(11,.lst 5),(28,.lst 1),(36,.lst 1),(37,.lst 3),(65,.lst 1),(67,.lst 5),(68,.lst 4),(70,fI .i64 g.1)]) (fun g=>[(5,.list 4 1 (R _ cB g.2.1))]) (fun g=>spots_Match_l15 N (spots_Match_l1 N p0 p1 m1) p0 v35 v40 v41 g.2.2 g.1 g.2.1=some r) (fun g=>g.2.2) (_,_,N) h ?_ ?_
   · (cbv;(try simp only [e_rnil hR]);repeat' (first | exact trivial | exact rfl | exact Or.inr trivial | apply And.intro))
   rintro ⟨v55,v56,m15⟩ h Q15 hN15 hT15 hX15
   have h:spots_Match_l15 N (spots_Match_l1 N p0 p1 m1) p0 v35 v40 v41 m15 v55 v56=some r:=h
   cases m15 with
   | zero=>exact nomatch (show (none:Option _)=some _ from h)
   | succ m15=>
   rw [spots_Match_l15] at h
   rw [q_cm hE,q_ll hE,←hR] at h
   cbv
   refine L_if hE h (fun h=>?_) (fun h=>?_)<;>cbv
   · refine L_row hE hR h fun r57 h=>?_;cbv
     refine L_row hE hR h fun r58 h=>?_;cbv
     refine L_rowL hE hR h fun r59 h=>?_;cbv
     refine L_for hE lay_ok 6 (fun g:Int ×(List Bool)× Nat=>[(6,.lst 3),(8,.lst 4),(11,.lst 5),(28,.lst 1),(36,.lst 1),(37,.lst 3),(65,.lst 1),(67,.lst 5),(68,.lst 4),(72,.elt 4 v55 0),(80,fI .i64 g.1)]) (fun g=>[(5,.list 4 1 (R _ cB g.2.1))]) (fun g=>spots_Match_l16 (spots_Match_l15 N (spots_Match_l1 N p0 p1 m1) p0 v35 v40 v41 m15) r59 v55 g.2.2 g.1 g.2.1=some r) (fun g=>g.2.2) (_,_,N) h ?_ ?_
     · (cbv;(try simp only [e_rnil hR]);repeat' (first | exact trivial | exact rfl | exact Or.inr trivial | apply And.intro))
     rintro ⟨v60,v61,m16⟩ h Q16 hN16 hT16 hX16
     have h:spots_Match_l16 (spots_Match_l15 N (spots_Match_l1 N p0 p1 m1) p0 v35 v40 v41 m15) r59 v55 m16 v60 v61=some r:=h
     cases m16 with
     | zero=>exact nomatch (show (none:Option _)=some _ from h)
     | succ m16=>
     rw [spots_Match_l16] at h
     rw [q_ar hE,q_cm hE,q_ll hE,←hR] at h
     cbv
     refine L_if hE h (fun h=>?_) (fun h=>?_)<;>cbv
     · refine L_row hE hR h fun r62 h=>?_;cbv
       refine L_row hE hR h fun r63 h=>?_;cbv
       refine L_row hE hR h fun r64 h=>?_;cbv
       refine L_put hE hR h fun l65 e h=>?_;cbv at e;rw [e];clear e
       refine hN16 _ (_,_,m16) [] h (Nat.lt_succ_self _) trivial ?_;(cbv;(try simp only [e_rnil hR]);repeat' (first | exact trivial | exact rfl | exact Or.inr trivial | apply And.intro))
     refine hX16 _ _ ?_;cbv
     refine hN15 _ (_,_,m15) [] h (Nat.lt_succ_self _) trivial ?_;(cbv;(try simp only [e_rnil hR]);repeat' (first | exact trivial | exact rfl | exact Or.inr trivial | apply And.intro))
   refine hX15 _ _ ?_;cbv
   refine L_for hE lay_ok 7 (fun g:Int ×(List Int)× Nat=>[(6,.lst 6),(8,.lst 4),(11,.lst 5),(28,.lst 1),(36,.lst 1),(37,.lst 3),(65,.lst 1),(67,.lst 5),(68,.lst 4),(89,.lst 3),(91,.lst 5),(93,fI .i64 g.1)]) (fun g=>[(6,.list 3 1 (R _ (cI .i64) g.2.1))]) (fun g=>spots_Match_l17 (spots_Match_l1 N p0 p1 m1) v35 v40 v56 g.2.2 g.1 g.2.1=some r) (fun g=>g.2.2) (_,_,N) h ?_ ?_
   · (cbv;(try simp only [e_rnil hR]);repeat' (first | exact trivial | exact rfl | exact Or.inr trivial | apply And.intro))
   rintro ⟨v66,v67,m17⟩ h Q17 hN17 hT17 hX17
   have h:spots_Match_l17 (spots_Match_l1 N p0 p1 m1) v35 v40 v56 m17 v66 v67=some r:=h
   cases m17 with
   | zero=>exact nomatch (show (none:Option _)=some _ from h)
   | succ m17=>
   rw [spots_Match_l17] at h
   rw [q_ar hE,q_cm hE,q_ll hE,←hR] at h
   cbv
   refine L_if hE h (fun h=>?_) (fun h=>?_)<;>cbv
   · refine L_row hE hR h fun r68 h=>?_;cbv
     refine L_row hE hR h fun r69 h=>?_;cbv
     refine L_cdJ hE lay_ok h 7 (fun j630:(List Int)=>[(6,.lst 6)]) (fun j630=>[(6,.list 3 1 (R _ (cI .i64) j630))]) (fun j630 h=>?_) (fun j630 h=>?_)<;>cbv
     · refine L_if hE h (fun h=>?_) (fun h=>?_)<;>cbv
       · refine L_appL hE hR h rfl (hf _) (fun _=>rfl) (by decide) fun l70 e h=>?_;cbv at e;rw [e];clear e
         cases h;(cbv;(try simp only [e_rnil hR]);repeat' (first | exact trivial | exact rfl | exact Or.inr trivial | apply And.intro))
       cases h;(cbv;(try simp only [e_rnil hR]);repeat' (first | exact trivial | exact rfl | exact Or.inr trivial | apply And.intro))
     refine hN17 _ (_,_,m17) [] h (Nat.lt_succ_self _) trivial ?_;(cbv;(try simp only [e_rnil hR]);repeat' (first | exact trivial | exact rfl | exact Or.inr trivial | apply And.intro))
   refine hX17 _ _ ?_;cbv
   refine hN1 _ (some (_,_,_,m1)) [(3,6)] h (Nat.lt_succ_self _) ⟨hf _,hf _,trivial⟩ ?_;(cbv;(try simp only [e_rnil hR]);repeat' (first | exact trivial | exact rfl | exact Or.inr trivial | apply And.intro))
 refine hX1 _ _ ?_;cbv
 refine L_keep hE lay_ok Tryd.call25 Tryd.func25 rfl ?_
 intro A18 E18 Q18 hE18 hf18 hQ18;cbv
 refine L_keep hE18 lay_ok Tryd.call45 Tryd.func45 rfl ?_
 intro A19 E19 Q19 hE19 hf19 hQ19;cbv
 refine L_for hE19 lay_ok 4 (fun g:Int × Nat=>[(4,fI .i64 0),(8,fI .i64 g.1)]) (fun g=>[]) (fun g=>spots_Match_l20 p0 v36 g.2 g.1=some r) (fun g=>g.2) (_,N) h ?_ ?_
 · (cbv;(try simp only [e_rnil hR]);repeat' (first | exact trivial | exact rfl | exact Or.inr trivial | apply And.intro))
 rintro ⟨v71,m20⟩ h Q20 hN20 hT20 hX20
 have h:spots_Match_l20 p0 v36 m20 v71=some r:=h
 cases m20 with
 | zero=>exact nomatch (show (none:Option _)=some _ from h)
 | succ m20=>
 rw [spots_Match_l20] at h
 rw [q_ar hE,q_cm hE,q_ll hE,←hR] at h
 cbv
 refine L_if hE19 h (fun h=>?_) (fun h=>?_)<;>cbv
 · refine L_row hE19 hR h fun r72 h=>?_;cbv
   refine L_keep hE19 lay_ok Tryd.call26 Tryd.func26 rfl ?_
   intro A21 E21 Q21 hE21 hf21 hQ21;cbv
   refine L_row hE21 hR h fun r73 h=>?_;cbv
   refine L_row hE21 hR h fun r74 h=>?_;cbv
   refine And.left (hQ21 _ _ rfl ?_);cbv
   refine L_if hE19 h (fun h=>?_) (fun h=>?_)<;>cbv
   · refine hT20 _ ?_
     refine And.left (hQ19 _ _ rfl ?_);cbv
     refine And.left (hQ18 _ _ rfl ?_);cbv
     exact And.left (hQ _ _ _ rfl rfl (by cases h;subst hR;rfl))
   refine hN20 _ (_,m20) [] h (Nat.lt_succ_self _) trivial ?_;(cbv;(try simp only [e_rnil hR]);repeat' (first | exact trivial | exact rfl | exact Or.inr trivial | apply And.intro))
 refine hX20 _ _ ?_;cbv
 refine And.left (hQ19 _ _ rfl ?_);cbv
 refine And.left (hQ18 _ _ rfl ?_);cbv
 exact And.left (hQ _ _ _ rfl rfl (by cases h;subst hR;rfl))
end Gn
end Go.Proofs.YtbpihhelojjedaaDoor
namespace Go.Proofs.YtbpihhelojjedaaDoor
open Go Go.RowKit
open Ab Sh
namespace Gn
theorem regex_times_w {p0:Int} {p1:Int} {r:Bool} (h:regex_times_g p0 p1=some r):FunS Tryd.prog 38 [fI .i64 p0,fI .i64 p1] (regex_times_s rw) r:=by
 refine fun_w lay_ok Tryd.call38 Tryd.func38 rfl ?_
 intro A W E Q R hE hR hf hQ;rcases W with ⟨ar,cm,conj,cv,sl,sc,ct,sa,ss,ll,_,_,_,_,mi,mx,_,_,_⟩
 unfold regex_times_g at h
 rw [q_cm hE,q_mx hE] at h
 cbv
 refine L_rgJ hE lay_ok h 0 (fun j1:Bool=>[(10,fB j1)]) (fun j1=>[]) (fun j1 h=>?_) (fun j1 h=>?_)<;>cbv
 · refine L_if hE h (fun h=>?_) (fun h=>?_)<;>cbv
   · cases h;(cbv;(try simp only [e_rnil hR]);repeat' (first | exact trivial | exact rfl | exact Or.inr trivial | apply And.intro))
   cases h;(cbv;(try simp only [e_rnil hR]);repeat' (first | exact trivial | exact rfl | exact Or.inr trivial | apply And.intro))
 refine L_if hE h (fun h=>?_) (fun h=>?_)<;>cbv
 · exact And.left (hQ _ _ _ rfl rfl (by cases h;subst hR;rfl))
 refine L_rgJ hE lay_ok h 0 (fun j2:Bool=>[(4,fB j2)]) (fun j2=>[]) (fun j2 h=>?_) (fun j2 h=>?_)<;>cbv
 · refine L_if hE h (fun h=>?_) (fun h=>?_)<;>cbv
   · cases h;(cbv;(try simp only [e_rnil hR]);repeat' (first | exact trivial | exact rfl | exact Or.inr trivial | apply And.intro))
   refine L_if hE h (fun h=>?_) (fun h=>?_)<;>cbv
   · cases h;(cbv;(try simp only [e_rnil hR]);repeat' (first | exact trivial | exact rfl | exact Or.inr trivial | apply And.intro))
   cases h;(cbv;(try simp only [e_rnil hR]);repeat' (first | exact trivial | exact rfl | exact Or.inr trivial | apply And.intro))
 exact And.left (hQ _ _ _ rfl rfl (by cases h;subst hR;rfl))
theorem regex_Right_w:∀{N:Nat} {p0:Node} {r:Bool},regex_Right_g N p0=some r→FunS Tryd.prog 17 [.agg [fI .i64 p0.kind,fI .u64 (p0.set.a.toNat:Int),fI .u64 (p0.set.b.toNat:Int),fI .u64 (p0.set.c.toNat:Int),fI .u64 (p0.set.d.toNat:Int),.t (.slc (rw _ nodeRow p0.kids)),fI .i64 p0.min,fI .i64 p0.max]] (regex_Right_s rw) r:=by
 intro N
 induction N with
 | zero=>intros;rename_i h;exact nomatch (show (none:Option _)=some _ from h)
 | succ N ih=>
 intro p0 r h
 refine fun_w lay_ok Tryd.call17 Tryd.func17 rfl ?_
 intro A W E Q R hE hR hf hQ;rcases W with ⟨ar,cm,conj,cv,sl,sc,ct,sa,ss,ll,_,_,_,_,mi,mx,_,_,_⟩
 rw [←hR]
 rw [regex_Right_g] at h
 skip
 cbv
 refine L_for hE lay_ok 1 (fun g:Int × Nat=>[(2,fB false),(8,fI .i64 g.1)]) (fun g=>[]) (fun g=>regex_Right_l1 (regex_Right_g N) p0 g.2 g.1=some r) (fun g=>g.2) (_,N) h ?_ ?_
 · (cbv;(try simp only [e_rnil hR]);repeat' (first | exact trivial | exact rfl | exact Or.inr trivial | apply And.intro))
 rintro ⟨v1,m1⟩ h Q1 hN1 hT1 hX1
 have h:regex_Right_l1 (regex_Right_g N) p0 m1 v1=some r:=h
 cases m1 with
 | zero=>exact nomatch (show (none:Option _)=some _ from h)
 | succ m1=>
 rw [regex_Right_l1] at h
 rw [q_ar hE,q_cm hE,q_conj hE,q_ll hE,←hR] at h
 cbv
 refine L_if hE h (fun h=>?_) (fun h=>?_)<;>cbv
 · refine L_rowN hE hR h fun r2 h=>?_;cbv
   refine L_rgJ hE lay_ok h 2 (fun j4:Bool=>[(26,fB j4)]) (fun j4=>[]) (fun j4 h=>?_) (fun j4 h=>?_)<;>cbv
   · refine L_call hE hR h (fun _ e=>ih e) (by subst hR;rfl) rfl fun a3 h=>?_;cbv
     refine L_if hE h (fun h=>?_) (fun h=>?_)<;>cbv
     · cases h;(cbv;(try simp only [e_rnil hR]);repeat' (first | exact trivial | exact rfl | exact Or.inr trivial | apply And.intro))
     refine L_if hE h (fun h=>?_) (fun h=>?_)<;>cbv
     · cases h;(cbv;(try simp only [e_rnil hR]);repeat' (first | exact trivial | exact rfl | exact Or.inr trivial | apply And.intro))
     cases h;(cbv;(try simp only [e_rnil hR]);repeat' (first | exact trivial | exact rfl | exact Or.inr trivial | apply And.intro))
   refine L_if hE h (fun h=>?_) (fun h=>?_)<;>cbv
   · refine hT1 _ ?_
     exact And.left (hQ _ _ _ rfl rfl (by cases h;subst hR;rfl))
   refine hN1 _ (_,m1) [] h (Nat.lt_succ_self _) trivial ?_;(cbv;(try simp only [e_rnil hR]);repeat' (first | exact trivial | exact rfl | exact Or.inr trivial | apply And.intro))
 refine hX1 _ _ ?_;cbv
 refine L_rgJ hE lay_ok h 1 (fun j5:Bool=>[(51,fB j5)]) (fun j5=>[]) (fun j5 h=>?_) (fun j5 h=>?_)<;>cbv
 · refine L_if hE h (fun h=>?_) (fun h=>?_)<;>cbv
   · refine L_if hE h (fun h=>?_) (fun h=>?_)<;>cbv
     · cases h;(cbv;(try simp only [e_rnil hR]);repeat' (first | exact trivial | exact rfl | exact Or.inr trivial | apply And.intro))
     refine L_if hE h (fun h=>?_) (fun h=>?_)<;>cbv
     · refine L_if hE h (fun h=>?_) (fun h=>?_)<;>cbv
       · cases h;(cbv;(try simp only [e_rnil hR]);repeat' (first | exact trivial | exact rfl | exact Or.inr trivial | apply And.intro))
       cases h;(cbv;(try simp only [e_rnil hR]);repeat' (first | exact trivial | exact rfl | exact Or.inr trivial | apply And.intro))
     cases h;(cbv;(try simp only [e_rnil hR]);repeat' (first | exact trivial | exact rfl | exact Or.inr trivial | apply And.intro))
   refine L_if hE h (fun h=>?_) (fun h=>?_)<;>cbv
   · refine L_if hE h (fun h=>?_) (fun h=>?_)<;>cbv
     · cases h;(cbv;(try simp only [e_rnil hR]);repeat' (first | exact trivial | exact rfl | exact Or.inr trivial | apply And.intro))
     cases h;(cbv;(try simp only [e_rnil hR]);repeat' (first | exact trivial | exact rfl | exact Or.inr trivial | apply And.intro))
   cases h;(cbv;(try simp only [e_rnil hR]);repeat' (first | exact trivial | exact rfl | exact Or.inr trivial | apply And.intro))
 refine L_if hE h (fun h=>?_) (fun h=>?_)<;>cbv
 · exact And.left (hQ _ _ _ rfl rfl (by cases h;subst hR;rfl))
 refine L_if hE h (fun h=>?_) (fun h=>?_)<;>cbv
 · exact And.left (hQ _ _ _ rfl rfl (by cases h;subst hR;rfl))
 refine L_if hE h (fun h=>?_) (fun h=>?_)<;>cbv
 · exact And.left (hQ _ _ _ rfl rfl (by cases h;subst hR;rfl))
 refine L_if hE h (fun h=>?_) (fun h=>?_)<;>cbv
 · exact And.left (hQ _ _ _ rfl rfl (by cases h;subst hR;rfl))
 refine L_if hE h (fun h=>?_) (fun h=>?_)<;>cbv
 · refine L_rgJ hE lay_ok h 1 (fun j6:Bool=>[(2,fB j6)]) (fun j6=>[]) (fun j6 h=>?_) (fun j6 h=>?_)<;>cbv
   · refine L_if hE h (fun h=>?_) (fun h=>?_)<;>cbv
     · refine L_call hE hR h (fun _ e=>regex_times_w e) rfl rfl fun a4 h=>?_;cbv
       cases h;(cbv;(try simp only [e_rnil hR]);repeat' (first | exact trivial | exact rfl | exact Or.inr trivial | apply And.intro))
     cases h;(cbv;(try simp only [e_rnil hR]);repeat' (first | exact trivial | exact rfl | exact Or.inr trivial | apply And.intro))
   exact And.left (hQ _ _ _ rfl rfl (by cases h;subst hR;rfl))
 exact And.left (hQ _ _ _ rfl rfl (by cases h;subst hR;rfl))
theorem spots_count_w:∀{N:Nat} {p0:Node} {r:Int},spots_count_g N p0=some r→FunS Tryd.prog 31 [.agg [fI .i64 p0.kind,fI .u64 (p0.set.a.toNat:Int),fI .u64 (p0.set.b.toNat:Int),fI .u64 (p0.set.c.toNat:Int),fI .u64 (p0.set.d.toNat:Int),.t (.slc (rw _ nodeRow p0.kids)),fI .i64 p0.min,fI .i64 p0.max]] (spots_count_s rw) r:=by
 intro N
 induction N with
 | zero=>intros;rename_i h;exact nomatch (show (none:Option _)=some _ from h)
 | succ N ih=>
 intro p0 r h
 refine fun_w lay_ok Tryd.call31 Tryd.func31 rfl ?_
 intro A W E Q R hE hR hf hQ;rcases W with ⟨ar,cm,conj,cv,sl,sc,ct,sa,ss,ll,_,_,_,_,mi,mx,_,_,_⟩
 rw [←hR]
 rw [spots_count_g] at h
 rw [q_cm hE] at h
 cbv
 refine L_if hE h (fun h=>?_) (fun h=>?_)<;>cbv
 · exact And.left (hQ _ _ _ rfl rfl (by cases h;subst hR;rfl))
 refine L_for hE lay_ok 1 (fun g:Int × Int × Nat=>[(3,fI .i64 g.1),(12,fI .i64 g.2.1)]) (fun g=>[]) (fun g=>spots_count_l1 (spots_count_g N) p0 g.2.2 g.1 g.2.1=some r) (fun g=>g.2.2) (_,_,N) h ?_ ?_
 · (cbv;(try simp only [e_rnil hR]);repeat' (first | exact trivial | exact rfl | exact Or.inr trivial | apply And.intro))
 rintro ⟨v1,v2,m1⟩ h Q1 hN1 hT1 hX1
 have h:spots_count_l1 (spots_count_g N) p0 m1 v1 v2=some r:=h
 cases m1 with
 | zero=>exact nomatch (show (none:Option _)=some _ from h)
 | succ m1=>
 rw [spots_count_l1] at h
 rw [q_ar hE,q_cm hE,q_ll hE,q_mi hE,←hR] at h
 cbv
 refine L_if hE h (fun h=>?_) (fun h=>?_)<;>cbv
 · refine L_rowN hE hR h fun r3 h=>?_;cbv
   refine L_call hE hR h (fun _ e=>ih e) (by subst hR;rfl) rfl fun a4 h=>?_;cbv
   refine hN1 _ (_,_,m1) [] h (Nat.lt_succ_self _) trivial ?_;(cbv;(try simp only [e_rnil hR]);repeat' (first | exact trivial | exact rfl | exact Or.inr trivial | apply And.intro))
 refine hX1 _ _ ?_;cbv
 refine L_if hE h (fun h=>?_) (fun h=>?_)<;>cbv
 · exact And.left (hQ _ _ _ rfl rfl (by cases h;subst hR;rfl))
 refine L_if hE h (fun h=>?_) (fun h=>?_)<;>cbv
 · exact And.left (hQ _ _ _ rfl rfl (by cases h;subst hR;rfl))
 exact And.left (hQ _ _ _ rfl rfl (by cases h;subst hR;rfl))
theorem slices_ConcatI_w {N:Nat} {p0:List (List Int)} {r:List Int} (h:slices_ConcatI_g N p0=some r):FunL Tryd.prog 59 [.t (.slc (rw _ (cLs (cI .i64)) p0))] 3 1 (rw _ (cI .i64) r):=by
 refine list_w lay_ok Tryd.call59 Tryd.func59 rfl ?_
 intro A W E Q R hE hR hf hQ;rcases W with ⟨ar,cm,conj,cv,sl,sc,ct,sa,ss,ll,_,_,_,_,mi,mx,_,_,_⟩
 rw [←hR]
 unfold slices_ConcatI_g at h
 skip
 cbv
 refine L_for hE lay_ok 0 (fun g:Int × Int × Nat=>[(3,fI .i64 g.1),(11,fI .i64 g.2.1)]) (fun g=>[]) (fun g=>slices_ConcatI_l1 N p0 g.2.2 g.1 g.2.1=some r) (fun g=>g.2.2) (_,_,N) h ?_ ?_
 · (cbv;(try simp only [e_rnil hR]);repeat' (first | exact trivial | exact rfl | exact Or.inr trivial | apply And.intro))
 rintro ⟨v1,v2,m1⟩ h Q1 hN1 hT1 hX1
 have h:slices_ConcatI_l1 N p0 m1 v1 v2=some r:=h
 cases m1 with
 | zero=>exact nomatch (show (none:Option _)=some _ from h)
 | succ m1=>
 rw [slices_ConcatI_l1] at h
 rw [q_ar hE,q_cm hE,q_ll hE,←hR] at h
 cbv
 refine L_if hE h (fun h=>?_) (fun h=>?_)<;>cbv
 · refine L_rowL hE hR h fun r3 h=>?_;cbv
   refine L_cd hE lay_ok ?_;cbv
   refine L_if hE h (fun h=>?_) (fun h=>?_)<;>cbv
   · refine r_ifc hE Tryd.underlying9 rfl ?_;cbv
     exact nomatch h
   refine hN1 _ (_,_,m1) [] h (Nat.lt_succ_self _) trivial ?_;(cbv;(try simp only [e_rnil hR]);repeat' (first | exact trivial | exact rfl | exact Or.inr trivial | apply And.intro))
 refine hX1 _ _ ?_;cbv
 refine L_grow hE h fun h=>?_;cbv
 refine L_for hE lay_ok 1 (fun g:Int ×(List Int)× Nat=>[(6,.lst 0),(27,fI .i64 g.1)]) (fun g=>[(0,.list 3 1 (R _ (cI .i64) g.2.1))]) (fun g=>slices_ConcatI_l2 p0 g.2.2 g.1 g.2.1=some r) (fun g=>g.2.2) (_,_,N) h ?_ ?_
 · (cbv;(try simp only [e_rnil hR]);repeat' (first | exact trivial | exact rfl | exact Or.inr trivial | apply And.intro))
 rintro ⟨v4,v5,m2⟩ h Q2 hN2 hT2 hX2
 have h:slices_ConcatI_l2 p0 m2 v4 v5=some r:=h
 cases m2 with
 | zero=>exact nomatch (show (none:Option _)=some _ from h)
 | succ m2=>
 rw [slices_ConcatI_l2] at h
 rw [q_ar hE,q_cm hE,q_ll hE,←hR] at h
 cbv
 refine L_if hE h (fun h=>?_) (fun h=>?_)<;>cbv
 · refine L_rowL hE hR h fun r6 h=>?_;cbv
   refine L_app hE hR h (hf _) (fun _=>rfl) (by decide) fun l7 e h=>?_;cbv at e;rw [e];clear e
   refine hN2 _ (_,_,m2) [] h (Nat.lt_succ_self _) trivial ?_;(cbv;(try simp only [e_rnil hR]);repeat' (first | exact trivial | exact rfl | exact Or.inr trivial | apply And.intro))
 refine hX2 _ _ ?_;cbv
 exact And.left (hQ _ _ rfl (.inl ⟨_,rfl,by cases h;subst hR;rfl⟩))
end Gn
end Go.Proofs.YtbpihhelojjedaaDoor
