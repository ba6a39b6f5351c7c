/- Texts that the proof leans on. -/
import Derived.Test.YtjhbgkakhaonaaaGreatDoorK132
import Derived.ChangeArms
import Derived.OpenShut
import Derived.DataReads
import Derived.WideShapes
import Derived.Deep.Slices
import Derived.Laws.OwnMore
import Derived.Laws.AppendOwn
import Derived.ProofKit
import Derived.ShutString
import Derived.Carry
import Derived.LaidMore
import Derived.Deep.DeepHandedRow
set_option linter.unusedVariables false
set_option linter.unusedSimpArgs false
set_option maxRecDepth 100000
set_option maxHeartbeats 4000000
namespace Go.Proofs.YtjhbgkakhaonaaaGreatDoor
open Go Go.RowKit
open Ab Sh
namespace Gn
theorem r17_Count_w {N:Nat} {p0:List Int} {r:Int} (h:r17_Count_g N p0=some r):FunS Tryz.prog 28 [.t (.slc (rw _ (cI .i64) p0))] (r17_Count_s rw) r:=by
 refine fun_w lay_ok Tryz.call28 Tryz.func28 rfl ?_
 intro A W E Q R hE hR hf hQ;rcases W with ⟨ar,cm,conj,cv,sl,sc,ct,sa,ss,ll,_,_,_,_,mi,mx,_,_,_,_,_⟩
 rw [←hR]
 unfold r17_Count_g at h
 skip
 cbv
 refine L_for hE lay_ok 0 (fun g:Int × Int × Nat=>[(3,fI .i64 g.1),(4,fI .i64 g.2.1)]) (fun g=>[]) (fun g=>r17_Count_l1 N p0 g.2.2 g.1 g.2.1=some r) (fun g=>g.2.2) (_,_,N) h ?_ ?_
 · (cbv;(try simp only [e_rnil hR]);repeat' (first | exact trivial | exact rfl | exact Or.inr trivial | apply And.intro))
 rintro ⟨v1,v2,m1⟩ h Q1 hN1 hT1 hX1
 have h:r17_Count_l1 N p0 m1 v1 v2=some r:=h
 cases m1 with
 | zero=>exact nomatch (show (none:Option _)=some _ from h)
 | succ m1=>
 rw [r17_Count_l1] at h
 rw [q_ar hE,q_cm hE,q_ll hE,←hR] at h
 cbv
 refine L_rgJ hE lay_ok h 0 (fun j1:Bool=>[(12,fB j1)]) (fun j1=>[]) (fun j1 h=>?_) (fun j1 h=>?_)<;>cbv
 · refine L_if hE h (fun h=>?_) (fun h=>?_)<;>cbv
   · refine L_call hE hR h (fun _ e=>r17_Right_w e) (by subst hR;rfl) rfl fun a3 h=>?_;cbv
     cases h;(cbv;(try simp only [e_rnil hR]);repeat' (first | exact trivial | exact rfl | exact Or.inr trivial | apply And.intro))
   cases h;(cbv;(try simp only [e_rnil hR]);repeat' (first | exact trivial | exact rfl | exact Or.inr trivial | apply And.intro))
 refine L_if hE h (fun h=>?_) (fun h=>?_)<;>cbv
 · refine L_row hE hR h fun r4 h=>?_;cbv
   refine L_cdJ hE lay_ok h 0 (fun j2:Int=>[(3,fI .i64 j2)]) (fun j2=>[]) (fun j2 h=>?_) (fun j2 h=>?_)<;>cbv
   · refine L_if hE h (fun h=>?_) (fun h=>?_)<;>cbv
     · refine L_row hE hR h fun r5 h=>?_;cbv
       cases h;(cbv;(try simp only [e_rnil hR]);repeat' (first | exact trivial | exact rfl | exact Or.inr trivial | apply And.intro))
     cases h;(cbv;(try simp only [e_rnil hR]);repeat' (first | exact trivial | exact rfl | exact Or.inr trivial | apply And.intro))
   refine hN1 _ (_,_,m1) [] h (Nat.lt_succ_self _) trivial ?_;(cbv;(try simp only [e_rnil hR]);repeat' (first | exact trivial | exact rfl | exact Or.inr trivial | apply And.intro))
 refine hX1 _ _ ?_;cbv
 exact And.left (hQ _ _ _ rfl rfl (by cases h;subst hR;rfl))
theorem r18_Right_w {N:Nat} {p0:GDfa} {r:Bool} (h:r18_Right_g N p0=some r):FunS Tryz.prog 10 [.agg [fI .i64 p0.Start,.t (.slc (rw _ cB p0.Final)),.t (.slc (rw _ (cI .i64) p0.Block)),.t (.slc (rw _ (cLs (cI .i64)) p0.Next))]] (r18_Right_s rw) r:=by
 refine fun_w lay_ok Tryz.call10 Tryz.func10 rfl ?_
 intro A W E Q R hE hR hf hQ;rcases W with ⟨ar,cm,conj,cv,sl,sc,ct,sa,ss,ll,_,_,_,_,mi,mx,_,_,_,_,_⟩
 rw [←hR]
 unfold r18_Right_g at h
 rw [q_cm hE,q_ll hE,←hR] at h
 cbv
 refine L_call hE hR h (fun _ e=>r17_Count_w e) (by subst hR;rfl) rfl fun a1 h=>?_;cbv
 refine L_rgJ hE lay_ok h 1 (fun j1:Bool=>[(40,fB j1)]) (fun j1=>[]) (fun j1 h=>?_) (fun j1 h=>?_)<;>cbv
 · refine L_if hE h (fun h=>?_) (fun h=>?_)<;>cbv
   · cases h;(cbv;(try simp only [e_rnil hR]);repeat' (first | exact trivial | exact rfl | exact Or.inr trivial | apply And.intro))
   refine L_if hE h (fun h=>?_) (fun h=>?_)<;>cbv
   · cases h;(cbv;(try simp only [e_rnil hR]);repeat' (first | exact trivial | exact rfl | exact Or.inr trivial | apply And.intro))
   refine L_if hE h (fun h=>?_) (fun h=>?_)<;>cbv
   · cases h;(cbv;(try simp only [e_rnil hR]);repeat' (first | exact trivial | exact rfl | exact Or.inr trivial | apply And.intro))
   refine L_if hE h (fun h=>?_) (fun h=>?_)<;>cbv
   · cases h;(cbv;(try simp only [e_rnil hR]);repeat' (first | exact trivial | exact rfl | exact Or.inr trivial | apply And.intro))
   refine L_if hE h (fun h=>?_) (fun h=>?_)<;>cbv
   · cases h;(cbv;(try simp only [e_rnil hR]);repeat' (first | exact trivial | exact rfl | exact Or.inr trivial | apply And.intro))
   cases h;(cbv;(try simp only [e_rnil hR]);repeat' (first | exact trivial | exact rfl | exact Or.inr trivial | apply And.intro))
 refine L_if hE h (fun h=>?_) (fun h=>?_)<;>cbv
 · exact And.left (hQ _ _ _ rfl rfl (by cases h;subst hR;rfl))
 refine L_for hE lay_ok 1 (fun g:Int × Nat=>[(2,fB false),(5,fI .i64 g.1)]) (fun g=>[]) (fun g=>r18_Right_l1 N p0 a1 g.2 g.1=some r) (fun g=>g.2) (_,N) h ?_ ?_
 · (cbv;(try simp only [e_rnil hR]);repeat' (first | exact trivial | exact rfl | exact Or.inr trivial | apply And.intro))
 rintro ⟨v2,m1⟩ h Q1 hN1 hT1 hX1
 have h:r18_Right_l1 N p0 a1 m1 v2=some r:=h
 cases m1 with
 | zero=>exact nomatch (show (none:Option _)=some _ from h)
 | succ m1=>
 rw [r18_Right_l1] at h
 rw [q_cm hE,q_ll hE,←hR] at h
 cbv
 refine L_if hE h (fun h=>?_) (fun h=>?_)<;>cbv
 · refine L_rowL hE hR h fun r3 h=>?_;cbv
   refine L_if hE h (fun h=>?_) (fun h=>?_)<;>cbv
   · refine hT1 _ ?_
     exact And.left (hQ _ _ _ rfl rfl (by cases h;subst hR;rfl))
   refine L_for hE lay_ok 1 (fun g:Int × Nat=>[(2,fB false),(6,fI .i64 g.1)]) (fun g=>[]) (fun g=>r18_Right_l2 (r18_Right_l1 N p0 a1 m1) p0 a1 v2 g.2 g.1=some r) (fun g=>g.2) (_,N) h ?_ ?_
   · (cbv;(try simp only [e_rnil hR]);repeat' (first | exact trivial | exact rfl | exact Or.inr trivial | apply And.intro))
   rintro ⟨v4,m2⟩ h Q2 hN2 hT2 hX2
   have h:r18_Right_l2 (r18_Right_l1 N p0 a1 m1) p0 a1 v2 m2 v4=some r:=h
   cases m2 with
   | zero=>exact nomatch (show (none:Option _)=some _ from h)
   | succ m2=>
   rw [r18_Right_l2] at h
   rw [q_ar hE,q_cm hE,q_ll hE,←hR] at h
   cbv
   refine L_if hE h (fun h=>?_) (fun h=>?_)<;>cbv
   · refine L_rgJ hE lay_ok h 1 (fun j5:Bool=>[(79,fB j5)]) (fun j5=>[]) (fun j5 h=>?_) (fun j5 h=>?_)<;>cbv
     · refine L_rowL hE hR h fun r5 h=>?_;cbv
       refine L_row hE hR h fun r6 h=>?_;cbv
       refine L_if hE h (fun h=>?_) (fun h=>?_)<;>cbv
       · cases h;(cbv;(try simp only [e_rnil hR]);repeat' (first | exact trivial | exact rfl | exact Or.inr trivial | apply And.intro))
       refine L_rowL hE hR h fun r7 h=>?_;cbv
       refine L_row hE hR h fun r8 h=>?_;cbv
       cases h;(cbv;(try simp only [e_rnil hR]);repeat' (first | exact trivial | exact rfl | exact Or.inr trivial | apply And.intro))
     refine L_if hE h (fun h=>?_) (fun h=>?_)<;>cbv
     · refine hT2 _ ?_
       refine hT1 _ ?_
       exact And.left (hQ _ _ _ rfl rfl (by cases h;subst hR;rfl))
     refine hN2 _ (_,m2) [] h (Nat.lt_succ_self _) trivial ?_;(cbv;(try simp only [e_rnil hR]);repeat' (first | exact trivial | exact rfl | exact Or.inr trivial | apply And.intro))
   refine hX2 _ _ ?_;cbv
   refine hN1 _ (_,m1) [] h (Nat.lt_succ_self _) trivial ?_;(cbv;(try simp only [e_rnil hR]);repeat' (first | exact trivial | exact rfl | exact Or.inr trivial | apply And.intro))
 refine hX1 _ _ ?_;cbv
 exact And.left (hQ _ _ _ rfl rfl (by cases h;subst hR;rfl))
theorem r18_State_w {N:Nat} {p0:GDfa} {p1:ByteArray} {r:Int} (h:r18_State_g N p0 p1=some r):FunS Tryz.prog 12 [.agg [fI .i64 p0.Start,.t (.slc (rw _ cB p0.Final)),.t (.slc (rw _ (cI .i64) p0.Block)),.t (.slc (rw _ (cLs (cI .i64)) p0.Next))],fS p1] (r18_State_s rw) r:=by
 refine fun_w lay_ok Tryz.call12 Tryz.func12 rfl ?_
 intro A W E Q R hE hR hf hQ;rcases W with ⟨ar,cm,conj,cv,sl,sc,ct,sa,ss,ll,_,_,_,_,mi,mx,_,_,_,_,_⟩
 rw [←hR]
 unfold r18_State_g at h
 skip
 cbv
 refine L_call hE hR h (fun _ e=>r18_Right_w e) (by subst hR;rfl) rfl fun a1 h=>?_;cbv
 refine L_if hE h (fun h=>?_) (fun h=>?_)<;>cbv
 · exact And.left (hQ _ _ _ rfl rfl (by cases h;subst hR;rfl))
 refine L_for hE lay_ok 1 (fun g:Int × Int × Nat=>[(5,fI .i64 g.1),(6,fI .i64 g.2.1)]) (fun g=>[]) (fun g=>r18_State_l1 p0 p1 g.2.2 g.1 g.2.1=some r) (fun g=>g.2.2) (_,_,N) h ?_ ?_
 · (cbv;(try simp only [e_rnil hR]);repeat' (first | exact trivial | exact rfl | exact Or.inr trivial | apply And.intro))
 rintro ⟨v2,v3,m1⟩ h Q1 hN1 hT1 hX1
 have h:r18_State_l1 p0 p1 m1 v2 v3=some r:=h
 cases m1 with
 | zero=>exact nomatch (show (none:Option _)=some _ from h)
 | succ m1=>
 rw [r18_State_l1] at h
 rw [q_ar hE,q_cm hE,q_cv hE,q_sl hE,q_sa hE] at h
 cbv
 refine L_if hE h (fun h=>?_) (fun h=>?_)<;>cbv
 · refine L_whole hE lay_ok (by kernel_rfl) (by kernel_rfl) ?_;cbv
   refine L_rowL hE hR h fun r4 h=>?_;cbv
   refine L_sin hE h fun h=>?_
   refine L_row hE hR h fun r5 h=>?_;cbv
   refine L_row hE hR h fun r6 h=>?_;cbv
   refine hN1 _ (_,_,m1) [] h (Nat.lt_succ_self _) trivial ?_;(cbv;(try simp only [e_rnil hR]);repeat' (first | exact trivial | exact rfl | exact Or.inr trivial | apply And.intro))
 refine hX1 _ _ ?_;cbv
 exact And.left (hQ _ _ _ rfl rfl (by cases h;subst hR;rfl))
theorem r18_Run_w {N:Nat} {p0:GDfa} {p1:ByteArray} {r:Bool} (h:r18_Run_g N p0 p1=some r):FunS Tryz.prog 14 [.agg [fI .i64 p0.Start,.t (.slc (rw _ cB p0.Final)),.t (.slc (rw _ (cI .i64) p0.Block)),.t (.slc (rw _ (cLs (cI .i64)) p0.Next))],fS p1] (r18_Run_s rw) r:=by
 refine fun_w lay_ok Tryz.call14 Tryz.func14 rfl ?_
 intro A W E Q R hE hR hf hQ;rcases W with ⟨ar,cm,conj,cv,sl,sc,ct,sa,ss,ll,_,_,_,_,mi,mx,_,_,_,_,_⟩
 rw [←hR]
 unfold r18_Run_g at h
 rw [q_cm hE] at h
 cbv
 refine L_call hE hR h (fun _ e=>r18_State_w e) (by subst hR;rfl) rfl fun a1 h=>?_;cbv
 refine L_rgJ hE lay_ok h 1 (fun j1:Bool=>[(4,fB j1)]) (fun j1=>[]) (fun j1 h=>?_) (fun j1 h=>?_)<;>cbv
 · refine L_if hE h (fun h=>?_) (fun h=>?_)<;>cbv
   · refine L_row hE hR h fun r2 h=>?_;cbv
     cases h;(cbv;(try simp only [e_rnil hR]);repeat' (first | exact trivial | exact rfl | exact Or.inr trivial | apply And.intro))
   cases h;(cbv;(try simp only [e_rnil hR]);repeat' (first | exact trivial | exact rfl | exact Or.inr trivial | apply And.intro))
 exact And.left (hQ _ _ _ rfl rfl (by cases h;subst hR;rfl))
end Gn
end Go.Proofs.YtjhbgkakhaonaaaGreatDoor
namespace Go.Proofs.YtjhbgkakhaonaaaGreatDoor
open Go Go.RowKit
open Ab Sh
namespace Gn
theorem l18_DfaRuns_w {N : Nat} {p0:GDfa} {p1:ByteArray} {r:Bool} (h:l18_DfaRuns_g N p0 p1=some r):FunS Tryz.prog 3 [.agg [fI .i64 p0.Start,.t (.slc (rw _ cB p0.Final)),.t (.slc (rw _ (cI .i64) p0.Block)),.t (.slc (rw _ (cLs (cI .i64)) p0.Next))],fS p1] (l18_DfaRuns_s rw) r:=by
 refine fun_w lay_ok Tryz.call3 Tryz.func3 rfl ?_
 intro A W E Q R hE hR hf hQ;rcases W with ⟨ar,cm,conj,cv,sl,sc,ct,sa,ss,ll,_,_,_,_,mi,mx,_,_,_,_,_⟩
 rw [←hR]
 unfold l18_DfaRuns_g at h
 rw [q_cm hE,q_conj hE,q_sl hE] at h
 cbv
 refine L_rgJ hE lay_ok h 1 (fun j1:Bool=>[(11,fB j1)]) (fun j1=>[]) (fun j1 h=>?_) (fun j1 h=>?_)<;>cbv
 · refine L_call hE hR h (fun _ e=>l18_Great_w e) (by subst hR;rfl) rfl fun a1 h=>?_;cbv
   refine L_if hE h (fun h=>?_) (fun h=>?_)<;>cbv
   · cases h;(cbv;(try simp only [e_rnil hR]);repeat' (first | exact trivial | exact rfl | exact Or.inr trivial | apply And.intro))
   cases h;(cbv;(try simp only [e_rnil hR]);repeat' (first | exact trivial | exact rfl | exact Or.inr trivial | apply And.intro))
 refine L_if hE h (fun h=>?_) (fun h=>?_)<;>cbv
 · refine L_call hE hR h (fun _ e=>l18_works_w e) rfl rfl fun a2 h=>?_;cbv
   exact And.left (hQ _ _ _ rfl rfl (by cases h;subst hR;rfl))
 refine L_whole hE lay_ok (by kernel_rfl) (by kernel_rfl) ?_;cbv
 refine L_pcall hE hR h (fun _ e=>dfa_Right_w e) (by subst hR;rfl) rfl fun a3 h=>?_;cbv
 refine L_pcall hE hR h (fun _ e=>r18_Right_w e) (by subst hR;rfl) rfl fun a4 h=>?_;cbv
 refine L_if hE h (fun h=>?_) (fun h=>?_)<;>cbv
 · refine L_if hE h (fun h => ?_) (fun h=>?_)<;>cbv
   · refine L_if hE h (fun h =>?_) (fun h=>?_)<;>cbv
     · refine L_pcall hE hR h (fun _ e=>dfa_State_w e) (by subst hR;rfl) rfl fun a5 h=>?_;cbv
       refine L_if hE h (fun h=>?_) (fun h=>?_)<;>cbv
       · refine L_if hE h (fun h =>?_) (fun h=>?_)<;>cbv
         · refine L_if hE h (fun h =>?_) (fun h=>?_)<;>cbv
           · refine L_pcall hE hR h (fun _ e=>r18_State_w e) (by subst hR;rfl) rfl fun a6 h=>?_;cbv
             refine L_if hE h (fun h=>?_) (fun h=>?_)<;>cbv
             · refine L_if hE h (fun h=>?_) (fun h=>?_)<;>cbv
               · refine L_if hE h (fun h=>?_) (fun h=>?_)<;>cbv
                 · refine L_if hE h (fun h=>?_) (fun h=>?_)<;>cbv
                   · refine L_if hE h (fun h=>?_) (fun h=>?_)<;>cbv
                     · refine L_pcall hE hR h (fun _ e=>dfa_Run_w e) (by subst hR;rfl) rfl fun a7 h=>?_;cbv
                       refine L_if hE h (fun h=>?_) (fun h=>?_)<;>cbv
                       · refine L_if hE h (fun h=>?_) (fun h=>?_)<;>cbv
                         · refine L_if hE h (fun h=>?_) (fun h=>?_)<;>cbv
                           · refine L_pcall hE hR h (fun _ e=>r18_Run_w e) (by subst hR;rfl) rfl fun a8 h=>?_;cbv
                             refine L_if hE h (fun h=>?_) (fun h=>?_)<;>cbv
                             · refine L_if hE h (fun h=>?_) (fun h=>?_)<;>cbv
                               · refine L_if hE h (fun h=>?_) (fun h=>?_)<;>cbv
                                 · refine L_pcall hE hR h (fun _ e=>l18_works_w e) rfl rfl fun a9 h=>?_;cbv
                                   refine L_if hE h (fun h=>?_) (fun h=>?_)<;>cbv
                                   · exact And.left (hQ _ _ _ rfl rfl (by cases h;subst hR;rfl))
                                   exact nomatch h
                                 refine L_if hE h (fun h=>?_) (fun h=>?_)<;>cbv
                                 · exact nomatch h
                                 exact And.left (hQ _ _ _ rfl rfl (by cases h;subst hR;rfl))
                               exact nomatch h
                             exact nomatch h
                           exact nomatch h
                         exact nomatch h
                       exact nomatch h
                     exact nomatch h
                   exact nomatch h
                 refine L_if hE h (fun h=>?_) (fun h=>?_)<;>cbv
                 · exact nomatch h
                 refine L_if hE h (fun h=>?_) (fun h=>?_)<;>cbv
                 · exact nomatch h
                 refine L_if hE h (fun h=>?_) (fun h=>?_)<;>cbv
                 · exact nomatch h
                 refine L_if hE h (fun h=>?_) (fun h=>?_)<;>cbv
                 · exact nomatch h
                 refine L_if hE h (fun h=>?_) (fun h=>?_)<;>cbv
                 · exact nomatch h
                 refine L_if hE h (fun h=>?_) (fun h=>?_)<;>cbv
                 · exact nomatch h
                 refine L_if hE h (fun h=>?_) (fun h=>?_)<;>cbv
                 · exact nomatch h
                 refine L_f hE ?_;cbv
                 refine L_f hE ?_;cbv
                 exact And.left (hQ _ _ _ rfl rfl (by cases h;subst hR;rfl))
               exact nomatch h
             exact nomatch h
           exact nomatch h
         exact nomatch h
       exact nomatch h
     exact nomatch h
   exact nomatch h
 refine L_if hE h (fun h=>?_) (fun h=>?_)<;>cbv
 · exact nomatch h
 refine L_if hE h (fun h=>?_) (fun h=>?_)<;>cbv
 · exact nomatch h
 refine L_if hE h (fun h=>?_) (fun h=>?_)<;>cbv
 · exact nomatch h
 refine L_if hE h (fun h=>?_) (fun h=>?_)<;>cbv
 · exact nomatch h
 refine L_if hE h (fun h=>?_) (fun h=>?_)<;>cbv
 · exact nomatch h
 refine L_if hE h (fun h=>?_) (fun h=>?_)<;>cbv
 · exact nomatch h
 refine L_if hE h (fun h=>?_) (fun h=>?_)<;>cbv
 · exact nomatch h
 refine L_f hE ?_;cbv
 refine L_f hE ?_;cbv
 refine L_f hE ?_;cbv
 refine L_f hE ?_;cbv
 refine L_f hE ?_;cbv
 refine L_f hE ?_;cbv
 refine L_f hE ?_;cbv
 refine L_f hE ?_;cbv
 refine L_f hE ?_;cbv
 refine L_f hE ?_;cbv
 exact And.left (hQ _ _ _ rfl rfl (by cases h;subst hR;rfl))
end Gn
end Go.Proofs.YtjhbgkakhaonaaaGreatDoor
namespace Go.Proofs.YtjhbgkakhaonaaaGreatDoor
open Go Go.RowKit Go.ChangeShapes Go.WideShapes
theorem addr_off (b o j:Nat):(⟨b,o,none⟩:Addr).add j=⟨b,o+j,none⟩:=by simp [Addr.add]
def Fits (A:Option Addr) (n cap:Nat):Prop:=n≤cap∧(A=none→cap=0)
theorem Fits.none_:Fits none 0 0:=⟨Nat.le_refl _,fun _=>rfl⟩
section
variable {α:Type}
def RowsAt (n:Nat) (R:α→List Value→Prop) (G:Nat→Prop) (w:World) (A:Option Addr) (xs:List α):Prop:=
 0<xs.length→∃b o,A=some ⟨b,o,none⟩∧G b∧∀(k:Nat) (h:k<xs.length),∃cs,R xs[k] cs∧∀j u,cs[j]?=some u→w.cell? ⟨b,o+k*n+j,none⟩=some u
def Kept (G:Nat→Prop) (w w':World):Prop:=∀b,G b→w'.heap[b]?=w.heap[b]?
theorem Kept.cell {G:Nat→Prop} {w w':World} (h:Kept G w w') {b:Nat} (hb:G b) (o:Nat):w'.cell? ⟨b,o,none⟩=w.cell? ⟨b,o,none⟩:=World.cell?_of_block (h b hb)
theorem rows_nil {n:Nat} {R:α→List Value→Prop} {G:Nat→Prop} {w:World} {A:Option Addr}:RowsAt n R G w A ([]:List α):=fun h=>absurd h (by simp)
end
section
variable {H:Type} {enc:TypeId × Value→H} {P:Program} {W:World} {sp:Nat→Bool} {held:Bool}
theorem cell_place {a:Addr} {u:Value} (h:W.cell? a=some u):a=⟨a.block,a.off,none⟩∧a.block<W.heap.size:=by
 unfold World.cell? at h
 cases hb:W.heap[a.block]? with
 | none=>rw [hb] at h;cases h
 | some o=>
   rw [hb] at h
   refine ⟨?_,(Array.getElem?_eq_some_iff.1 hb).1⟩
   cases o with
   | cells c t fr=>
     dsimp only at h
     cases hs:a.spot with
     | none=>cases a;simp at hs;subst hs;rfl
     | some x=>rw [hs] at h;simp at h
   | _=>cases h
theorem rows_open {α:Type} {T e:TypeId} {n:Nat} {R:α→List Value→Prop} (hT:P.underlying T=some (.slice e)) (hn:P.cellsOf e=n) (hn0:0<n)
 (hR:∀(fuel:Nat) (cs:List Value) (x:DataW H × List MemPlace),DataW.trod enc P W 0 sp held fuel e cs=some x→∃a,R a cs∧cs.length=n) {fuel:Nat} {v:Value} {x:DataW H × List MemPlace}
 (h:DataW.trod enc P W 0 sp held fuel T [v]=some x):∃(A:Option Addr) (xs:List α) (cap:Nat),v=.slice A xs.length cap∧Fits A xs.length cap∧xs.length≤maxLen∧RowsAt n R (fun b=>b<W.heap.size) W A xs:=by
 rcases DataW.trod_slice hT h with ⟨e5,-⟩ | ⟨a,len,cap,elems,rest,m,rfl,e5,-,-,hlc,hcm,hel,hat,-,-⟩
 · injection e5 with e5 _
   exact ⟨none,[],0,e5,Fits.none_,Nat.zero_le _,rows_nil⟩
 · injection e5 with e5 _
   rw [hn] at hat
   have key:∀i,i≤len→∃(xs:List α),xs.length=i∧∀(k:Nat) (hk:k<xs.length),∃cs,R xs[k] cs∧cs.length=n∧∀j u,cs[j]?=some u→W.cell? (a.add (k*n+j))=some u:=by
    intro i
    induction i with
    | zero=>intro _;exact ⟨[],rfl,fun k hk=>absurd hk (by simp)⟩
    | succ i ih=>
      intro hi
      obtain ⟨xs,hl,hc⟩:=ih (by omega)
      have h1:=hat i (by omega)
      rw [List.getElem?_eq_getElem (by omega)] at h1
      obtain ⟨cs',h2,h3⟩:=Option.bind_eq_some_iff.1 h1
      obtain ⟨y,hy,hyl⟩:=hR m cs' _ h3
      obtain ⟨_,_,h4⟩:=World.cells?_some h2
      refine ⟨xs++[y],by rw [List.length_append,hl];rfl,fun k hk=>?_⟩
      rcases Nat.lt_or_ge k xs.length with hlt | hge
      · obtain ⟨cs,h5,h6,h7⟩:=hc k hlt
        refine ⟨cs,?_,h6,h7⟩
        rw [List.getElem_append_left hlt]
        exact h5
      · have hkl:k<xs.length+1:=by simpa using hk
        obtain rfl:k=xs.length:=by omega
        refine ⟨cs',?_,hyl,fun j u hj=>?_⟩
        · rw [List.getElem_append_right (Nat.le_refl _)]
          simpa using hy
        · have hj':j<n:=by rw [←hyl];exact (List.getElem?_eq_some_iff.1 hj).1
          have h8:=h4 j hj'
          rw [hj,Go.Deep.add_add,←hl] at h8
          exact h8
   obtain ⟨xs,hl,hc⟩:=key len (Nat.le_refl _)
   subst hl
   refine ⟨some a,xs,cap,e5,⟨hlc,fun h=>by cases h⟩,Nat.le_trans hlc hcm,fun hpos=>?_⟩
   obtain ⟨cs0,_,hl0,h0⟩:=hc 0 hpos
   have h1:=h0 0 _ (List.getElem?_eq_getElem (by omega))
   have ha0:a.add (0*n+0)=a:=by unfold Addr.add;simp
   rw [ha0] at h1
   obtain ⟨h2,h3⟩:=cell_place h1
   refine ⟨a.block,a.off,congrArg some h2,h3,fun k hk=>?_⟩
   obtain ⟨cs,h4,_,h5⟩:=hc k hk
   refine ⟨cs,h4,fun j u hj=>?_⟩
   have h6:=h5 j u hj
   rw [h2,addr_off,←Nat.add_assoc] at h6
   exact h6
end
end Go.Proofs.YtjhbgkakhaonaaaGreatDoor
namespace Go.Proofs.YtjhbgkakhaonaaaGreatDoor
open Go Go.RowKit Go.ChangeShapes Go.WideShapes
open Ab
namespace Op2
def CRep (G:Nat→Prop) (w:World) (ts:List T) (cs:List Value):Prop:=cs.length=ts.length∧∀(j:Nat) t u,ts[j]?=some t→cs[j]?=some u→TRep G w t u
theorem crep_nil {G:Nat→Prop} {w:World}:CRep G w [] []:=⟨rfl,fun j t u h=>by simp at h⟩
theorem crep_cons {G:Nat→Prop} {w:World} {t:T} {u:Value} {ts:List T} {cs:List Value} (h:TRep G w t u) (hr:CRep G w ts cs):CRep G w (t::ts) (u::cs):=by
 refine ⟨by simp [hr.1],fun j a b h1 h2=>?_⟩
 cases j with
 | zero=>simp at h1 h2;subst h1;subst h2;exact h
 | succ j=>exact hr.2 j a b (by simpa using h1) (by simpa using h2)
theorem crep_app {G:Nat→Prop} {w:World}:∀{ts us:List T} {cs ds:List Value},CRep G w ts cs→CRep G w us ds→CRep G w (ts++us) (cs++ds)
 | [],us,[],ds,_,h=>h
 | [],us,c::cs,ds,h,_=>by have:=h.1;simp at this
 | t::ts,us,[],ds,h,_=>by have:=h.1;simp at this
 | t::ts,us,c::cs,ds,h,g=>crep_cons (h.2 0 t c rfl rfl) (crep_app ⟨by have:=h.1;simpa using this,fun j a b h1 h2=>h.2 (j+1) a b (by simpa using h1) (by simpa using h2)⟩ g)
theorem agg_rep {cx:Cx} {w:World} {ts:List T} {cs:Array Value} (h:CRep cx.G w ts cs.toList):VRep cx w (.agg (ts.map V.t)) (.agg cs):=by
 refine .agg _ _ (by simpa using h.1) (fun c hc=>by obtain ⟨t,-,rfl⟩:=List.mem_map.1 hc;rfl) (fun i c u h1 h2=>?_)
 rw [List.getElem?_map] at h1
 obtain ⟨t,ht,rfl⟩:=Option.map_eq_some_iff.1 h1
 exact .t _ _ (h.2 i t u ht (by simpa using h2))
theorem slc_of {α:Type} {n:Nat} {row:α→List T} {R:α→List Value→Prop} {G:Nat→Prop} {w:World} {xs:List α} {A:Option Addr} {cap:Nat} (hn:∀x∈xs,(row x).length=n) (hR:∀x cs,x∈xs→R x cs→CRep G w (row x) cs)
 (hf:Fits A xs.length cap) (h:RowsAt n R G w A xs):TRep G w (.slc (xs.map row)) (.slice A xs.length cap):=by
 by_cases hpos:0<xs.length
 · obtain ⟨b,o,rfl,hG,hk⟩:=h hpos
   have key:∀i j t,((xs.map row)[i]?).bind (fun r=>r[j]?)=some t→∃u,w.cell? ⟨b,o+(i*n+j),none⟩=some u∧TRep G w t u:=fun i j t ht=>by
    rw [List.getElem?_map] at ht
    cases hx:xs[i]? with
    | none=>rw [hx] at ht;cases ht
    | some x=>
      rw [hx] at ht
      simp only [Option.map_some,Option.bind_some] at ht
      obtain ⟨hi,rfl⟩:=List.getElem?_eq_some_iff.1 hx
      obtain ⟨cs,h1,h2⟩:=hk i hi
      obtain ⟨g1,g2⟩:=hR _ cs (List.getElem_mem hi) h1
      have hj:j<cs.length:=by have:=(List.getElem?_eq_some_iff.1 ht).1;omega
      refine ⟨cs[j],?_,g2 j t _ ht (List.getElem?_eq_getElem hj)⟩
      have:=h2 j _ (List.getElem?_eq_getElem hj)
      rwa [show o+i*n+j=o+(i*n+j) by omega] at this
   have hlen:(xs.map row).length=xs.length:=List.length_map ..
   rw [←hlen]
   refine .slc _ _ b o n cap (fun i j=>(w.cell? ⟨b,o+(i*n+j),none⟩).getD undef) (by rw [hlen];exact hf.1) (fun e=>by cases e) (fun _=>⟨rfl,hG⟩) (fun r hr=>?_) (fun i j t ht=>?_) (fun i j t ht=>?_)
   · obtain ⟨x,hx,rfl⟩:=List.mem_map.1 hr
     exact hn x hx
   · obtain ⟨u,h1,-⟩:=key i j t ht
     rw [h1]
     rfl
   · obtain ⟨u,h1,h2⟩:=key i j t ht
     rw [h1]
     exact h2
 · obtain rfl:xs=[]:=List.eq_nil_of_length_eq_zero (by omega)
   exact .slc [] A 0 0 0 cap (fun _ _=>undef) (Nat.zero_le _) hf.2 (fun h=>absurd rfl h) (fun r h=>by simp at h) (fun i j t h=>by simp at h) (fun i j t h=>by simp at h)
section
variable {H:Type} {enc:TypeId × Value→H} {P:Program} {W:World} {sp:Nat→Bool} {held:Bool} {fuel:Nat} {x:DataW H × List MemPlace}
abbrev GW (W:World):Nat→Prop:=fun b=>b<W.heap.size
theorem o_int {t:TypeId} {k:IntKind} {cs:List Value} (ht:P.underlying t=some (.int k)) (h:DataW.trod enc P W 0 sp held fuel t cs=some x):∃a:Int,CRep (GW W) W [.flat (.int k a)] cs:=by
 obtain ⟨n,rfl,-,-⟩:=DataW.trod_int ht h
 exact ⟨n,crep_cons (.flat _ rfl) crep_nil⟩
theorem o_bool {t:TypeId} {cs:List Value} (ht:P.underlying t=some .bool) (h:DataW.trod enc P W 0 sp held fuel t cs=some x):∃a:Bool,CRep (GW W) W [.flat (.bool a)] cs:=by
 obtain ⟨n,rfl,-⟩:=DataW.trod_bool ht h
 exact ⟨n,crep_cons (.flat _ rfl) crep_nil⟩
theorem o_slc {α:Type} {t e:TypeId} {n:Nat} {c:α→List T} {cs:List Value} (hT:P.underlying t=some (.slice e)) (hn:P.cellsOf e=n) (hn0:0<n) (hc:∀a,(c a).length=n)
 (hR:∀(fuel:Nat) (cs:List Value) (x:DataW H × List MemPlace),DataW.trod enc P W 0 sp held fuel e cs=some x→∃a,CRep (GW W) W (c a) cs) (hl:cs.length=1)
 (h:DataW.trod enc P W 0 sp held fuel t cs=some x):∃l:List α,CRep (GW W) W [.slc (l.map c)] cs∧l.length≤maxLen:=by
 match cs,hl with
 | [v],_=>
 obtain ⟨A,xs,cap,rfl,hf,hm,hr⟩:=rows_open (α:=α) (R:=fun a cs=>CRep (GW W) W (c a) cs) hT hn hn0 (fun fuel cs x h=>by
  obtain ⟨a,ha⟩:=hR fuel cs x h
  exact ⟨a,ha,by rw [ha.1,hc]⟩) h
 exact ⟨xs,crep_cons (slc_of (fun a _=>hc a) (fun a cs _ h=>h) hf hr) crep_nil,hm⟩
theorem fld {fs:Array Field} {n:Nat} {cs:List Value} {xs:List (DataW H × List MemPlace)} (hl:xs.length=fs.size)
 (hf:∀(i:Nat) (f:Field),fs[i]?=some f→DataW.trod enc P W 0 sp held n f.type ((cs.drop f.offset).take (P.cellsOf f.type))=xs[i]?) (i:Nat) (f:Field) (h:fs[i]?=some f):
 ∃y,DataW.trod enc P W 0 sp held n f.type ((cs.drop f.offset).take (P.cellsOf f.type))=some y:=by
 have:=hf i f h
 obtain ⟨hi,-⟩:=Array.getElem?_eq_some_iff.1 h
 rw [List.getElem?_eq_getElem (by omega)] at this
 exact ⟨_,this⟩
theorem part_end {G:Nat→Prop} {cs:List Value} {o s:Nat} {ts:List T} (hl:cs.length=o+s) (h:CRep G W ts ((cs.drop o).take s)):CRep G W ts (cs.drop o):=by
 rwa [List.take_of_length_le (by rw [List.length_drop];omega)] at h
theorem part {G:Nat→Prop} {cs:List Value} {o s:Nat} {ts us:List T} (h:CRep G W ts ((cs.drop o).take s)) (hr:CRep G W us (cs.drop (o+s))):CRep G W (ts++us) (cs.drop o):=by
 have e:cs.drop o=(cs.drop o).take s++cs.drop (o+s):=by rw [←List.drop_drop,List.take_append_drop]
 rw [e]
 exact crep_app h hr
end
theorem vr_nil {cx:Cx} {w:World}:VReps cx w [] ⟨[]⟩:=⟨rfl,fun i c u h=>by simp at h⟩
theorem vr_cons {cx:Cx} {w:World} {a:V} {av:List V} {y:Value} {ys:List Value} (h:VRep cx w a y) (hr:VReps cx w av ⟨ys⟩):VReps cx w (a::av) ⟨y::ys⟩:=
 ⟨by have:=hr.1;simp at this ⊢;exact this,fun i c u h1 h2=>by
  cases i with
  | zero=>simp at h1 h2;subst h1;subst h2;exact h
  | succ i=>exact hr.2 i c u (by simpa using h1) (by simpa using h2)⟩
theorem v_agg {cx:Cx} {w:World} {ts:List T} {cs:Array Value} (h:CRep cx.G w ts cs.toList):VRep cx w (.agg (ts.map V.t)) (.agg cs):=agg_rep h
end Op2
end Go.Proofs.YtjhbgkakhaonaaaGreatDoor
namespace Go.Proofs.YtjhbgkakhaonaaaGreatDoor
open Go Go.RowKit Go.ChangeShapes Go.WideShapes
open Ab
namespace Op2
variable {H:Type} {enc:TypeId × Value→H} {P:Program} {W:World} {sp:Nat→Bool} {held:Bool} {fuel:Nat} {x:DataW H × List MemPlace}
theorem len1 {t e:TypeId} {cs:List Value} (ht:P.underlying t=some (.slice e)) (h:DataW.trod enc P W 0 sp held fuel t cs=some x):cs.length=1:=by
 rcases DataW.trod_slice ht h with ⟨e5,-⟩ | ⟨a,len,cap,elems,rest,n,-,e5,-⟩<;>rw [e5]<;>rfl
end Op2
end Go.Proofs.YtjhbgkakhaonaaaGreatDoor
namespace Go.Proofs.YtjhbgkakhaonaaaGreatDoor
open Go Go.ChangeShapes Go.WideShapes Go.ChangeAt Go.RowKit
section
variable {H:Type} {enc:TypeId × Value→H} {P:Program} {W W':World}
theorem below_all (hl:laidOutB P=true) (hb:Below W.heap.size W W'):∀(ts:List TypeId) (vs:List Value) (ds:List (DataW H)) (ps:List MemPlace),
 (ts.all fun t=>P.readableRec t&&decide (t<P.types.size))=true→DataW.TrodAll enc P W 0 (fun _=>true) true ts vs ds ps→(∀x∈ps,x.block<W.heap.size)→
 DataW.TrodAll enc P W' 0 (fun b=>decide (b<W.heap.size)) true ts vs ds ps
 | [],vs,ds,ps,_,h,_=>by
   obtain ⟨rfl,rfl,rfl⟩:=trodAll_nil h
   exact trodAll_mk0
 | t::ts,vs,ds,ps,hr,h,hlt=>by
   obtain ⟨v,vs',d,ds',p,q,rfl,rfl,rfl,h0,r0⟩:=trodAll_cons h
   simp only [List.all_cons,Bool.and_eq_true,decide_eq_true_eq] at hr
   exact trodAll_cons_mk (Below.trod hl hr.1.1 hr.1.2 h0 hb (fun x hx=>hlt x (List.mem_append_left _ hx)))
    (below_all hl hb ts vs' ds' q (by simpa using hr.2) r0 (fun x hx=>hlt x (List.mem_append_right _ hx)))
theorem law_post {s:ChangeSpec} {f:Func} {args:Array Value} {ds gs:List (DataW H)} {before:List MemPlace} {t:TypeId} (hl:laidOutB P=true)
 (hr:(f.params.toList.all fun t=>P.readableRec t&&decide (t<P.types.size))=true) (hres:f.resultTypes=#[t]) (ht:P.underlying t=some .bool)
 (hv:s.vars=[]) (hfn:s.fn H (ds++gs)={results:=[.lit (.bool true)],args:=ds})
 (hW:DataW.Whole enc P f.params.toList s.vars false W args.toList ds gs before) (hb:Below W.heap.size W W'):s.post enc P f false true false false W args (.bool true) W':=by
 have hW':=hW
 have hlt:=hW.lt
 obtain ⟨p,q,hA,hV,rfl,_,_⟩:=hW
 refine ⟨ds,gs,_,[],p,[],hW',?_,?_,?_,hb.frame _,fun h=>by cases h⟩
 · rw [hfn,hres]
   exact trodAll_mk1 (shut_bool ht _)
 · rw [hfn]
   exact below_all hl hb _ _ _ _ hr hA (fun x hx=>by simpa using hlt x (List.mem_append_left _ hx))
 · rw [hfn,hv]
   exact rfl
end
def flatD:DataW Unit→List Value
 | .lit (.int k n)=>[.int k n]
 | .lit (.string s)=>[.string ⟨s.toArray⟩]
 | .agg ps=>flatDs ps
 | _=>[]
 where flatDs:List (DataW Unit)→List Value
 | []=>[]
 | d::r=>flatD d++flatDs r
end Go.Proofs.YtjhbgkakhaonaaaGreatDoor
