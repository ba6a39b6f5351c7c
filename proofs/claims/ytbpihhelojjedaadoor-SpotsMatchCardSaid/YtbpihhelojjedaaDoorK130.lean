/- Texts that the proof leans on. -/
import Derived.Test.YtbpihhelojjedaaDoorK128
import Derived.Test.YtbpihhelojjedaaDoorK129
import Derived.ChangeArms
import Derived.OpenShut
import Derived.DataReads
import Derived.WideShapes
import Derived.Deep.Slices
import Derived.Laws.OwnMore
import Derived.Laws.AppendOwn
set_option linter.unusedVariables false
set_option linter.unusedSimpArgs false
set_option maxRecDepth 100000
set_option maxHeartbeats 4000000
namespace Go.Proofs.YtbpihhelojjedaaDoor
open Go Go.RowKit
open Ab Sh
namespace Gn
theorem slices_CloneI_w {p0:List Int} {r:List Int} (h:slices_CloneI_g p0=some r):FunS Tryd.prog 35 [.t (.slc (rw _ (cI .i64) p0))] (slices_CloneI_s rw) r:=by
 refine fun_w lay_ok Tryd.call35 Tryd.func35 rfl ?_
 intro A W E Q R hE hR hf hQ;rcases W with ⟨ar,cm,conj,cv,sl,sc,ct,sa,ss,ll,_,_,_,_,mi,mx,_,_,_⟩
 rw [←hR]
 unfold slices_CloneI_g at h
 skip
 cbv
 refine L_nilq hE hR h (fun e=>by subst e;rfl) (fun h=>?_) (fun h=>?_)<;>cbv
 · refine L_t hE ?_;cbv
   exact And.left (hQ _ _ _ rfl rfl (by cases h;subst hR;rfl))
 refine L_f hE ?_;cbv
 refine L_lit hR (e:=(cI .i64)) h rfl fun l1 e h=>?_;cbv at e;rw [e];clear e
 refine L_app hE hR h (hf _) (fun _=>rfl) (by decide) fun l2 e h=>?_;cbv at e;rw [e];clear e
 exact And.left (hQ _ _ _ rfl rfl (by cases h;subst hR;rfl))
theorem spots_Of_w {N:Nat} {p0:Node} {r:GSpots × Int} (h:spots_Of_g N p0=some r):FunS Tryd.prog 14 [.agg [fI .i64 p0.kind,fI .u64 (p0.set.a.toNat:Int),fI .u64 (p0.set.b.toNat:Int),fI .u64 (p0.set.c.toNat:Int),fI .u64 (p0.set.d.toNat:Int),.t (.slc (rw _ nodeRow p0.kids)),fI .i64 p0.min,fI .i64 p0.max]] (spots_Of_s rw) r:=by
 refine fun_w lay_ok Tryd.call14 Tryd.func14 rfl ?_
 intro A W E Q R hE hR hf hQ;rcases W with ⟨ar,cm,conj,cv,sl,sc,ct,sa,ss,ll,_,_,_,_,mi,mx,_,_,_⟩
 rw [←hR]
 unfold spots_Of_g at h
 rw [q_cm hE] at h
 cbv
 refine L_call hE hR h (fun _ e=>regex_Right_w e) (by subst hR;rfl) rfl fun a1 h=>?_;cbv
 refine L_if hE h (fun h=>?_) (fun h=>?_)<;>cbv
 · exact And.left (hQ _ _ _ rfl rfl (by cases h;subst hR;rfl))
 refine L_call hE hR h (fun _ e=>spots_count_w e) (by subst hR;rfl) rfl fun a2 h=>?_;cbv
 refine L_if hE h (fun h=>?_) (fun h=>?_)<;>cbv
 · exact And.left (hQ _ _ _ rfl rfl (by cases h;subst hR;rfl))
 refine L_opn hE 2 0 32 4 rfl rfl ?_;cbv
 refine L_opn hE 2 4 23 1 rfl rfl ?_;cbv
 refine L_hcall hE hR [2,3,4] [true,false,false] h (fun _ e=>spots_writer_write_w e) rfl rfl rfl rfl (by subst hR;rfl) (by subst hR;rfl) ⟨(hf _),(hf _),trivial⟩ fun a3 h=>?_;cbv
 obtain ⟨a4,ea4,h⟩:=conv_some h
 obtain ⟨a5,ea5,h⟩:=conv_some h
 refine L_fxS hE lay_ok (by kernel_rfl) 14 [(10,2,2,[.t (.slc (R _ (cI .i64) a4))]),(13,2,3,[.t (.slc (R _ (cI .i64) a5))])] [6,7,11,12] [none,none,none,none,none,some (.box 61 [.t (.slc (R _ (cI .i64) a3.1.first)),.t (.slc (R _ (cI .i64) a3.1.last)),fB a3.1.none])] (by kernel_rfl) (by kernel_rfl) (by kernel_rfl) (by kernel_rfl) (by cbv;repeat' (first | exact rfl | trivial | apply And.intro)) (by cbv;repeat' (first | exact rfl | trivial | apply And.intro)) fun KK hKK=>?_;cbv
 refine L_pcall hE hR (X:=some) (by rw [ea4];rfl) (fun _ e=>slices_CloneI_w e) (by subst hR;rfl) rfl fun _ hx=>?_;cases hx;cbv
 refine L_pcall hE hR (X:=some) (by rw [ea5];rfl) (fun _ e=>slices_CloneI_w e) (by subst hR;rfl) rfl fun _ hx=>?_;cases hx;cbv
 (repeat' apply And.intro);(try (any_goals (first | exact rfl | trivial)));refine hKK _ ?_;cbv
 exact And.left (hQ _ _ _ rfl rfl (by cases h;subst hR;rfl))
theorem l16_works_w {N :Nat} {r:Bool} (h:l16_works_g N=some r):FunS Tryd.prog 6 [] (l16_works_s rw) r:=by
 refine fun_w lay_ok Tryd.call6 Tryd.func6 rfl ?_
 intro A W E Q R hE hR hf hQ;rcases W with ⟨ar,cm,conj,cv,sl,sc,ct,sa,ss,ll,_,_,_,_,mi,mx,_,_,_⟩
 unfold l16_works_g at h
 rw [q_cm hE,q_conj hE,q_ll hE,←hR] at h
 cbv
 refine L_call hE hR h (fun _ e=>regex_Parse_w e) rfl rfl fun a1 h=>?_;cbv
 refine L_call hE hR h (fun _ e=>spots_Of_w e) (by subst hR;rfl) rfl fun a2 h=>?_;cbv
 refine L_rgJ hE lay_ok h 3 (fun j1:Bool=>[(0,fB j1)]) (fun j1=>[]) (fun j1 h=>?_) (fun j1 h=>?_)<;>cbv
 · refine L_if hE h (fun h=>?_) (fun h=>?_)<;>cbv
   · refine L_if hE h (fun h=>?_) (fun h=>?_)<;>cbv
     · refine L_if hE h (fun h=>?_) (fun h=>?_)<;>cbv
       · refine L_if hE h (fun h=>?_) (fun h=>?_)<;>cbv
         · refine L_if hE h (fun h=>?_) (fun h=>?_)<;>cbv
           · refine L_if hE h (fun h=>?_) (fun h=>?_)<;>cbv
             · refine L_if hE h (fun h=>?_) (fun h=>?_)<;>cbv
               · refine L_rowL hE hR h fun r3 h=>?_;cbv
                 refine L_if hE h (fun h=>?_) (fun h=>?_)<;>cbv
                 · refine L_rowL hE hR h fun r4 h=>?_;cbv
                   refine L_row hE hR h fun r5 h=>?_;cbv
                   refine L_if hE h (fun h=>?_) (fun h=>?_)<;>cbv
                   · refine L_call hE hR h (fun _ e=>spots_Match_w e) (by subst hR;rfl) rfl fun a6 h=>?_;cbv
                     refine L_if hE h (fun h=>?_) (fun h=>?_)<;>cbv
                     · refine L_call hE hR h (fun _ e=>spots_Match_w e) (by subst hR;rfl) rfl fun a7 h=>?_;cbv
                       cases h;(cbv;(try simp only [e_rnil hR]);repeat' (first | exact trivial | exact rfl | exact Or.inr trivial | apply And.intro))
                     cases h;(cbv;(try simp only [e_rnil hR]);repeat' (first | exact trivial | exact rfl | exact Or.inr trivial | apply And.intro))
                   cases h;(cbv;(try simp only [e_rnil hR]);repeat' (first | exact trivial | exact rfl | exact Or.inr trivial | apply And.intro))
                 cases h;(cbv;(try simp only [e_rnil hR]);repeat' (first | exact trivial | exact rfl | exact Or.inr trivial | apply And.intro))
               cases h;(cbv;(try simp only [e_rnil hR]);repeat' (first | exact trivial | exact rfl | exact Or.inr trivial | apply And.intro))
             cases h;(cbv;(try simp only [e_rnil hR]);repeat' (first | exact trivial | exact rfl | exact Or.inr trivial | apply And.intro))
           cases h;(cbv;(try simp only [e_rnil hR]);repeat' (first | exact trivial | exact rfl | exact Or.inr trivial | apply And.intro))
         cases h;(cbv;(try simp only [e_rnil hR]);repeat' (first | exact trivial | exact rfl | exact Or.inr trivial | apply And.intro))
       cases h;(cbv;(try simp only [e_rnil hR]);repeat' (first | exact trivial | exact rfl | exact Or.inr trivial | apply And.intro))
     cases h;(cbv;(try simp only [e_rnil hR]);repeat' (first | exact trivial | exact rfl | exact Or.inr trivial | apply And.intro))
   cases h;(cbv;(try simp only [e_rnil hR]);repeat' (first | exact trivial | exact rfl | exact Or.inr trivial | apply And.intro))
 exact And.left (hQ _ _ _ rfl rfl (by cases h;subst hR;rfl))
theorem r16_rising_w {N:Nat} {p0:List Int} {p1:Int} {r:Bool} (h:r16_rising_g N p0 p1=some r):FunS Tryd.prog 23 [.t (.slc (rw _ (cI .i64) p0)),fI .i64 p1] (r16_rising_s rw) r:=by
 refine fun_w lay_ok Tryd.call23 Tryd.func23 rfl ?_
 intro A W E Q R hE hR hf hQ;rcases W with ⟨ar,cm,conj,cv,sl,sc,ct,sa,ss,ll,_,_,_,_,mi,mx,_,_,_⟩
 rw [←hR]
 unfold r16_rising_g at h
 skip
 cbv
 refine L_for hE lay_ok 0 (fun g:Int × Nat=>[(4,fB false),(5,fI .i64 g.1)]) (fun g=>[]) (fun g=>r16_rising_l1 p0 p1 g.2 g.1=some r) (fun g=>g.2) (_,N) h ?_ ?_
 · (cbv;(try simp only [e_rnil hR]);repeat' (first | exact trivial | exact rfl | exact Or.inr trivial | apply And.intro))
 rintro ⟨v1,m1⟩ h Q1 hN1 hT1 hX1
 have h:r16_rising_l1 p0 p1 m1 v1=some r:=h
 cases m1 with
 | zero=>exact nomatch (show (none:Option _)=some _ from h)
 | succ m1=>
 rw [r16_rising_l1] at h
 rw [q_ar hE,q_cm hE,q_ll hE,←hR] at h
 cbv
 refine L_if hE h (fun h=>?_) (fun h=>?_)<;>cbv
 · refine L_whole hE lay_ok (by kernel_rfl) (by kernel_rfl) ?_;cbv
   refine L_row hE hR h fun r2 h=>?_;cbv
   refine L_if hE h (fun h=>?_) (fun h=>?_)<;>cbv
   · refine L_if hE h (fun h=>?_) (fun h=>?_)<;>cbv
     · refine L_if hE h (fun h=>?_) (fun h=>?_)<;>cbv
       · refine L_if hE h (fun h=>?_) (fun h=>?_)<;>cbv
         · refine L_if hE h (fun h=>?_) (fun h=>?_)<;>cbv
           · refine L_if hE h (fun h=>?_) (fun h=>?_)<;>cbv
             · refine L_if hE h (fun h=>?_) (fun h=>?_)<;>cbv
               · refine L_t hE ?_;cbv
                 refine L_t hE ?_;cbv
                 refine L_t hE ?_;cbv
                 refine L_t hE ?_;cbv
                 refine L_t hE ?_;cbv
                 refine L_t hE ?_;cbv
                 refine hT1 _ ?_
                 exact And.left (hQ _ _ _ rfl rfl (by cases h;subst hR;rfl))
               exact nomatch h
             exact nomatch h
           exact nomatch h
         exact nomatch h
       exact nomatch h
     exact nomatch h
   refine L_if hE h (fun h=>?_) (fun h=>?_)<;>cbv
   · exact nomatch h
   refine L_if hE h (fun h=>?_) (fun h=>?_)<;>cbv
   · exact nomatch h
   refine L_row hE hR h fun r3 h=>?_;cbv
   refine L_if hE h (fun h=>?_) (fun h=>?_)<;>cbv
   · exact nomatch h
   refine L_if hE h (fun h=>?_) (fun h=>?_)<;>cbv
   · exact nomatch h
   refine L_if hE h (fun h=>?_) (fun h=>?_)<;>cbv
   · exact nomatch h
   refine L_if hE h (fun h=>?_) (fun h=>?_)<;>cbv
   · exact nomatch h
   refine L_if hE h (fun h=>?_) (fun h=>?_)<;>cbv
   · refine L_if hE h (fun h=>?_) (fun h=>?_)<;>cbv
     · refine L_if hE h (fun h=>?_) (fun h=>?_)<;>cbv
       · refine L_if hE h (fun h=>?_) (fun h=>?_)<;>cbv
         · refine L_if hE h (fun h=>?_) (fun h=>?_)<;>cbv
           · refine L_t hE ?_;cbv
             refine hT1 _ ?_
             exact And.left (hQ _ _ _ rfl rfl (by cases h;subst hR;rfl))
           exact nomatch h
         exact nomatch h
       exact nomatch h
     exact nomatch h
   refine L_if hE h (fun h=>?_) (fun h=>?_)<;>cbv
   · exact nomatch h
   refine L_if hE h (fun h=>?_) (fun h=>?_)<;>cbv
   · exact nomatch h
   refine L_if hE h (fun h=>?_) (fun h=>?_)<;>cbv
   · refine L_if hE h (fun h=>?_) (fun h=>?_)<;>cbv
     · refine L_if hE h (fun h=>?_) (fun h=>?_)<;>cbv
       · refine L_if hE h (fun h=>?_) (fun h=>?_)<;>cbv
         · refine L_row hE hR h fun r4 h=>?_;cbv
           refine L_if hE h (fun h=>?_) (fun h=>?_)<;>cbv
           · refine L_if hE h (fun h=>?_) (fun h=>?_)<;>cbv
             · refine L_if hE h (fun h=>?_) (fun h=>?_)<;>cbv
               · refine L_if hE h (fun h=>?_) (fun h=>?_)<;>cbv
                 · refine L_row hE hR h fun r5 h=>?_;cbv
                   refine L_if hE h (fun h=>?_) (fun h=>?_)<;>cbv
                   · refine L_if hE h (fun h=>?_) (fun h=>?_)<;>cbv
                     · refine L_if hE h (fun h=>?_) (fun h=>?_)<;>cbv
                       · exact nomatch h
                       refine L_if hE h (fun h=>?_) (fun h=>?_)<;>cbv
                       · refine L_if hE h (fun h=>?_) (fun h=>?_)<;>cbv
                         · exact nomatch h
                         refine L_if hE h (fun h=>?_) (fun h=>?_)<;>cbv
                         · refine hT1 _ ?_
                           exact And.left (hQ _ _ _ rfl rfl (by cases h;subst hR;rfl))
                         refine hN1 _ (_,m1) [] h (Nat.lt_succ_self _) trivial ?_;(cbv;(try simp only [e_rnil hR]);repeat' (first | exact trivial | exact rfl | exact Or.inr trivial | apply And.intro))
                       exact nomatch h
                     exact nomatch h
                   exact nomatch h
                 exact nomatch h
               exact nomatch h
             exact nomatch h
           exact nomatch h
         exact nomatch h
       exact nomatch h
     exact nomatch h
   refine L_if hE h (fun h=>?_) (fun h=>?_)<;>cbv
   · exact nomatch h
   refine L_if hE h (fun h=>?_) (fun h=>?_)<;>cbv
   · exact nomatch h
   refine L_if hE h (fun h=>?_) (fun h=>?_)<;>cbv
   · exact nomatch h
   refine L_if hE h (fun h=>?_) (fun h=>?_)<;>cbv
   · exact nomatch h
   refine L_if hE h (fun h=>?_) (fun h=>?_)<;>cbv
   · exact nomatch h
   refine L_if hE h (fun h=>?_) (fun h=>?_)<;>cbv
   · exact nomatch h
   refine L_if hE h (fun h=>?_) (fun h=>?_)<;>cbv
   · exact nomatch h
   refine L_if hE h (fun h=>?_) (fun h=>?_)<;>cbv
   · exact nomatch h
   refine L_if hE h (fun h=>?_) (fun h=>?_)<;>cbv
   · exact nomatch h
   refine L_if hE h (fun h=>?_) (fun h=>?_)<;>cbv
   · exact nomatch h
   refine L_if hE h (fun h=>?_) (fun h=>?_)<;>cbv
   · exact nomatch h
   refine L_if hE h (fun h=>?_) (fun h=>?_)<;>cbv
   · exact nomatch h
   refine L_f hE ?_;cbv
   refine hN1 _ (_,m1) [] h (Nat.lt_succ_self _) trivial ?_;(cbv;(try simp only [e_rnil hR]);repeat' (first | exact trivial | exact rfl | exact Or.inr trivial | apply And.intro))
 refine hX1 _ _ ?_;cbv
 exact And.left (hQ _ _ _ rfl rfl (by cases h;subst hR;rfl))
theorem r16_Right_w {N:Nat} {p0:GSpots} {r:Bool} (h:r16_Right_g N p0=some r):FunS Tryd.prog 8 [.agg [.t (.slc (rw _ cSet p0.Sets)),fB p0.None,.t (.slc (rw _ (cI .i64) p0.First)),.t (.slc (rw _ (cI .i64) p0.Last)),.t (.slc (rw _ (cLs (cI .i64)) p0.Next))]] (r16_Right_s rw) r:=by
 refine fun_w lay_ok Tryd.call8 Tryd.func8 rfl ?_
 intro A W E Q R hE hR hf hQ;rcases W with ⟨ar,cm,conj,cv,sl,sc,ct,sa,ss,ll,_,_,_,_,mi,mx,_,_,_⟩
 rw [←hR]
 unfold r16_Right_g at h
 rw [q_cm hE,q_ll hE,←hR] at h
 cbv
 refine L_rgJ hE lay_ok h 1 (fun j1:Bool=>[(30,fB j1)]) (fun j1=>[]) (fun j1 h=>?_) (fun j1 h=>?_)<;>cbv
 · refine L_if hE h (fun h=>?_) (fun h=>?_)<;>cbv
   · cases h;(cbv;(try simp only [e_rnil hR]);repeat' (first | exact trivial | exact rfl | exact Or.inr trivial | apply And.intro))
   refine L_if hE h (fun h=>?_) (fun h=>?_)<;>cbv
   · cases h;(cbv;(try simp only [e_rnil hR]);repeat' (first | exact trivial | exact rfl | exact Or.inr trivial | apply And.intro))
   refine L_call hE hR h (fun _ e=>r16_rising_w e) (by subst hR;rfl) rfl fun a1 h=>?_;cbv
   refine L_if hE h (fun h=>?_) (fun h=>?_)<;>cbv
   · cases h;(cbv;(try simp only [e_rnil hR]);repeat' (first | exact trivial | exact rfl | exact Or.inr trivial | apply And.intro))
   refine L_call hE hR h (fun _ e=>r16_rising_w e) (by subst hR;rfl) rfl fun a2 h=>?_;cbv
   cases h;(cbv;(try simp only [e_rnil hR]);repeat' (first | exact trivial | exact rfl | exact Or.inr trivial | apply And.intro))
 refine L_if hE h (fun h=>?_) (fun h=>?_)<;>cbv
 · exact And.left (hQ _ _ _ rfl rfl (by cases h;subst hR;rfl))
 refine L_for hE lay_ok 1 (fun g:Int × Nat=>[(2,fB false),(4,fI .i64 g.1)]) (fun g=>[]) (fun g=>r16_Right_l1 N p0 g.2 g.1=some r) (fun g=>g.2) (_,N) h ?_ ?_
 · (cbv;(try simp only [e_rnil hR]);repeat' (first | exact trivial | exact rfl | exact Or.inr trivial | apply And.intro))
 rintro ⟨v3,m1⟩ h Q1 hN1 hT1 hX1
 have h:r16_Right_l1 N p0 m1 v3=some r:=h
 cases m1 with
 | zero=>exact nomatch (show (none:Option _)=some _ from h)
 | succ m1=>
 rw [r16_Right_l1] at h
 rw [q_ar hE,q_cm hE,q_ll hE,←hR] at h
 cbv
 refine L_if hE h (fun h=>?_) (fun h=>?_)<;>cbv
 · refine L_rowL hE hR h fun r4 h=>?_;cbv
   refine L_call hE hR h (fun _ e=>r16_rising_w e) (by subst hR;rfl) rfl fun a5 h=>?_;cbv
   refine L_if hE h (fun h=>?_) (fun h=>?_)<;>cbv
   · refine hT1 _ ?_
     exact And.left (hQ _ _ _ rfl rfl (by cases h;subst hR;rfl))
   refine hN1 _ (_,m1) [] h (Nat.lt_succ_self _) trivial ?_;(cbv;(try simp only [e_rnil hR]);repeat' (first | exact trivial | exact rfl | exact Or.inr trivial | apply And.intro))
 refine hX1 _ _ ?_;cbv
 exact And.left (hQ _ _ _ rfl rfl (by cases h;subst hR;rfl))
end Gn
end Go.Proofs.YtbpihhelojjedaaDoor
namespace Go.Proofs.YtbpihhelojjedaaDoor
open Go Go.RowKit
open Ab Sh
namespace Gn
theorem r16_in_w {N:Nat} {p0:List Int} {p1:Int} {r:Bool} (h:r16_in_g N p0 p1=some r):FunS Tryd.prog 29 [.t (.slc (rw _ (cI .i64) p0)),fI .i64 p1] (r16_in_s rw) r:=by
 refine fun_w lay_ok Tryd.call29 Tryd.func29 rfl ?_
 intro A W E Q R hE hR hf hQ;rcases W with ⟨ar,cm,conj,cv,sl,sc,ct,sa,ss,ll,_,_,_,_,mi,mx,_,_,_⟩
 rw [←hR]
 unfold r16_in_g at h
 skip
 cbv
 refine L_for hE lay_ok 0 (fun g:Int × Nat=>[(4,fB false),(5,fI .i64 g.1)]) (fun g=>[]) (fun g=>r16_in_l1 p0 p1 g.2 g.1=some r) (fun g=>g.2) (_,N) h ?_ ?_
 · (cbv;(try simp only [e_rnil hR]);repeat' (first | exact trivial | exact rfl | exact Or.inr trivial | apply And.intro))
 rintro ⟨v1,m1⟩ h Q1 hN1 hT1 hX1
 have h:r16_in_l1 p0 p1 m1 v1=some r:=h
 cases m1 with
 | zero=>exact nomatch (show (none:Option _)=some _ from h)
 | succ m1=>
 rw [r16_in_l1] at h
 rw [q_ar hE,q_cm hE,q_ll hE,←hR] at h
 cbv
 refine L_if hE h (fun h=>?_) (fun h=>?_)<;>cbv
 · refine L_row hE hR h fun r2 h=>?_;cbv
   refine L_if hE h (fun h=>?_) (fun h=>?_)<;>cbv
   · refine hT1 _ ?_
     exact And.left (hQ _ _ _ rfl rfl (by cases h;subst hR;rfl))
   refine hN1 _ (_,m1) [] h (Nat.lt_succ_self _) trivial ?_;(cbv;(try simp only [e_rnil hR]);repeat' (first | exact trivial | exact rfl | exact Or.inr trivial | apply And.intro))
 refine hX1 _ _ ?_;cbv
 exact And.left (hQ _ _ _ rfl rfl (by cases h;subst hR;rfl))
theorem r16_Join_w {N:Nat} {p0:List Int} {p1:List Int} {p2:Int} {r:List Int} (h:r16_Join_g N p0 p1 p2=some r):FunS Tryd.prog 28 [.t (.slc (rw _ (cI .i64) p0)),.t (.slc (rw _ (cI .i64) p1)),fI .i64 p2] (r16_Join_s rw) r:=by
 refine fun_w lay_ok Tryd.call28 Tryd.func28 rfl ?_
 intro A W E Q R hE hR hf hQ;rcases W with ⟨ar,cm,conj,cv,sl,sc,ct,sa,ss,ll,_,_,_,_,mi,mx,_,_,_⟩
 rw [←hR]
 unfold r16_Join_g at h
 skip
 cbv
 refine L_for hE lay_ok 0 (fun g:Int ×(List Int)× Nat=>[(7,.lst 0),(8,fI .i64 g.1)]) (fun g=>[(0,.list 3 1 (R _ (cI .i64) g.2.1))]) (fun g=>r16_Join_l1 N p0 p1 p2 g.2.2 g.1 g.2.1=some r) (fun g=>g.2.2) (_,_,N) h ?_ ?_
 · (cbv;(try simp only [e_rnil hR]);repeat' (first | exact trivial | exact rfl | exact Or.inr trivial | apply And.intro))
 rintro ⟨v1,v2,m1⟩ h Q1 hN1 hT1 hX1
 have h:r16_Join_l1 N p0 p1 p2 m1 v1 v2=some r:=h
 cases m1 with
 | zero=>exact nomatch (show (none:Option _)=some _ from h)
 | succ m1=>
 rw [r16_Join_l1] at h
 rw [q_ar hE,q_cm hE] at h
 cbv
 refine L_if hE h (fun h=>?_) (fun h=>?_)<;>cbv
 · refine L_rgJ hE lay_ok h 1 (fun j3:Bool=>[(21,fB j3)]) (fun j3=>[]) (fun j3 h=>?_) (fun j3 h=>?_)<;>cbv
   · refine L_call hE hR h (fun _ e=>r16_in_w e) (by subst hR;rfl) rfl fun a3 h=>?_;cbv
     refine L_if hE h (fun h=>?_) (fun h=>?_)<;>cbv
     · cases h;(cbv;(try simp only [e_rnil hR]);repeat' (first | exact trivial | exact rfl | exact Or.inr trivial | apply And.intro))
     refine L_call hE hR h (fun _ e=>r16_in_w e) (by subst hR;rfl) rfl fun a4 h=>?_;cbv
     cases h;(cbv;(try simp only [e_rnil hR]);repeat' (first | exact trivial | exact rfl | exact Or.inr trivial | apply And.intro))
   refine L_cdJ hE lay_ok h 1 (fun j4:(List Int)=>[(7,.lst 0)]) (fun j4=>[(0,.list 3 1 (R _ (cI .i64) j4))]) (fun j4 h=>?_) (fun j4 h=>?_)<;>cbv
   · refine L_if hE h (fun h=>?_) (fun h=>?_)<;>cbv
     · refine L_appL hE hR h rfl (hf _) (fun _=>rfl) (by decide) fun l5 e h=>?_;cbv at e;rw [e];clear e
       cases h;(cbv;(try simp only [e_rnil hR]);repeat' (first | exact trivial | exact rfl | exact Or.inr trivial | apply And.intro))
     cases h;(cbv;(try simp only [e_rnil hR]);repeat' (first | exact trivial | exact rfl | exact Or.inr trivial | apply And.intro))
   refine hN1 _ (_,_,m1) [] h (Nat.lt_succ_self _) trivial ?_;(cbv;(try simp only [e_rnil hR]);repeat' (first | exact trivial | exact rfl | exact Or.inr trivial | apply And.intro))
 refine hX1 _ _ ?_;cbv
 exact And.left (hQ _ _ _ rfl rfl (by cases h;subst hR;rfl))
theorem r16_Match_w {N:Nat} {p0:GSpots} {p1:ByteArray} {r:Bool} (h:r16_Match_g N p0 p1=some r):FunS Tryd.prog 10 [.agg [.t (.slc (rw _ cSet p0.Sets)),fB p0.None,.t (.slc (rw _ (cI .i64) p0.First)),.t (.slc (rw _ (cI .i64) p0.Last)),.t (.slc (rw _ (cLs (cI .i64)) p0.Next))],fS p1] (r16_Match_s rw) r:=by
 refine fun_w lay_ok Tryd.call10 Tryd.func10 rfl ?_
 intro A W E Q R hE hR hf hQ;rcases W with ⟨ar,cm,conj,cv,sl,sc,ct,sa,ss,ll,_,_,_,_,mi,mx,_,_,_⟩
 rw [←hR]
 unfold r16_Match_g at h
 rw [q_sc hE] at h
 cbv
 refine L_call hE hR h (fun _ e=>r16_Right_w e) (by subst hR;rfl) rfl fun a1 h=>?_;cbv
 refine L_if hE h (fun h=>?_) (fun h=>?_)<;>cbv
 · exact And.left (hQ _ _ _ rfl rfl (by cases h;subst hR;rfl))
 refine L_if hE h (fun h=>?_) (fun h=>?_)<;>cbv
 · exact And.left (hQ _ _ _ rfl rfl (by cases h;subst hR;rfl))
 refine L_for hE lay_ok 1 (fun g:(List Int)× Int ×(List Int)× Nat=>[(5,.t (.slc (R _ (cI .i64) g.1))),(6,.lst 1),(7,fI .i64 g.2.1)]) (fun g=>[(1,.list 3 1 (R _ (cI .i64) g.2.2.1))]) (fun g=>r16_Match_l1 N p0 p1 g.2.2.2 g.1 g.2.1 g.2.2.1=some r) (fun g=>g.2.2.2) (_,_,_,N) h ?_ ?_
 · (cbv;(try simp only [e_rnil hR]);repeat' (first | exact trivial | exact rfl | exact Or.inr trivial | apply And.intro))
 rintro ⟨v2,v3,v4,m1⟩ h Q1 hN1 hT1 hX1
 have h:r16_Match_l1 N p0 p1 m1 v2 v3 v4=some r:=h
 cases m1 with
 | zero=>exact nomatch (show (none:Option _)=some _ from h)
 | succ m1=>
 rw [r16_Match_l1] at h
 rw [q_cm hE,q_sl hE] at h
 cbv
 refine L_if hE h (fun h=>?_) (fun h=>?_)<;>cbv
 · refine L_for hE lay_ok 2 (fun g:Int ×(List Int)× Nat=>[(6,.lst 2),(8,fI .i64 g.1)]) (fun g=>[(2,.list 3 1 (R _ (cI .i64) g.2.1))]) (fun g=>r16_Match_l2 N (r16_Match_l1 N p0 p1 m1) p0 p1 v2 v3 g.2.2 g.1 g.2.1=some r) (fun g=>g.2.2) (_,_,N) h ?_ ?_
   · (cbv;(try simp only [e_rnil hR]);repeat' (first | exact trivial | exact rfl | exact Or.inr trivial | apply And.intro))
   rintro ⟨v5,v6,m2⟩ h Q2 hN2 hT2 hX2
   have h:r16_Match_l2 N (r16_Match_l1 N p0 p1 m1) p0 p1 v2 v3 m2 v5 v6=some r:=h
   cases m2 with
   | zero=>exact nomatch (show (none:Option _)=some _ from h)
   | succ m2=>
   rw [r16_Match_l2] at h
   rw [q_ar hE,q_cm hE,q_cv hE,q_sa hE,q_ll hE,←hR] at h
   cbv
   refine L_if hE h (fun h=>?_) (fun h=>?_)<;>cbv
   · refine L_whole hE lay_ok (by kernel_rfl) (by kernel_rfl) ?_;cbv
     refine L_row hE hR h fun r7 h=>?_;cbv
     refine L_row hE hR h fun r8 h=>?_;cbv
     refine L_sin hE h fun h=>?_
     refine L_pcall hE hR h (fun _ e=>r12_Has_w e) rfl rfl fun a9 h=>?_;cbv
     refine L_cdJ hE lay_ok h 16 (fun j4:(List Int)=>[(6,.lst 2)]) (fun j4=>[(2,.list 3 1 (R _ (cI .i64) j4))]) (fun j4 h=>?_) (fun j4 h=>?_)<;>cbv
     · refine L_if hE h (fun h=>?_) (fun h=>?_)<;>cbv
       · refine L_row hE hR h fun r10 h=>?_;cbv
         refine L_appL hE hR h rfl (hf _) (fun _=>rfl) (by decide) fun l11 e h=>?_;cbv at e;rw [e];clear e
         cases h;(cbv;(try simp only [e_rnil hR]);repeat' (first | exact trivial | exact rfl | exact Or.inr trivial | apply And.intro))
       cases h;(cbv;(try simp only [e_rnil hR]);repeat' (first | exact trivial | exact rfl | exact Or.inr trivial | apply And.intro))
     refine hN2 _ (_,_,m2) [] h (Nat.lt_succ_self _) trivial ?_;(cbv;(try simp only [e_rnil hR]);repeat' (first | exact trivial | exact rfl | exact Or.inr trivial | apply And.intro))
   refine hX2 _ _ ?_;cbv
   refine L_denil hE 5 rfl ?_;cbv
   refine L_for hE lay_ok 3 (fun g:(List Int)× Int × Nat=>[(5,.t (.slc (R _ (cI .i64) g.1))),(6,.lst 2),(9,fI .i64 g.2.1)]) (fun g=>[]) (fun g=>r16_Match_l3 N (r16_Match_l1 N p0 p1 m1) p0 v3 v6 g.2.2 g.1 g.2.1=some r) (fun g=>g.2.2) (_,_,N) h ?_ ?_
   · (cbv;(try simp only [e_rnil hR]);repeat' (first | exact trivial | exact rfl | exact Or.inr trivial | apply And.intro))
   rintro ⟨v12,v13,m3⟩ h Q3 hN3 hT3 hX3
   have h:r16_Match_l3 N (r16_Match_l1 N p0 p1 m1) p0 v3 v6 m3 v12 v13=some r:=h
   cases m3 with
   | zero=>exact nomatch (show (none:Option _)=some _ from h)
   | succ m3=>
   rw [r16_Match_l3] at h
   rw [q_ar hE,q_cm hE,q_ll hE,←hR] at h
   cbv
   refine L_if hE h (fun h=>?_) (fun h=>?_)<;>cbv
   · refine L_whole hE lay_ok (by kernel_rfl) (by kernel_rfl) ?_;cbv
     refine L_row hE hR h fun r14 h=>?_;cbv
     refine L_row hE hR h fun r15 h=>?_;cbv
     refine L_rowL hE hR h fun r16 h=>?_;cbv
     refine L_pcall hE hR h (fun _ e=>r16_Join_w e) (by subst hR;rfl) rfl fun a17 h=>?_;cbv
     refine hN3 _ (_,_,m3) [] h (Nat.lt_succ_self _) trivial ?_;(cbv;(try simp only [e_rnil hR]);repeat' (first | exact trivial | exact rfl | exact Or.inr trivial | apply And.intro))
   refine hX3 _ _ ?_;cbv
   refine hN1 _ (_,_,_,m1) [(1,2)] h (Nat.lt_succ_self _) ⟨hf _,hf _,trivial⟩ ?_;(cbv;(try simp only [e_rnil hR]);repeat' (first | exact trivial | exact rfl | exact Or.inr trivial | apply And.intro))
 refine hX1 _ _ ?_;cbv
 refine L_for hE lay_ok 2 (fun g:Int × Nat=>[(4,fB false),(6,.lst 1),(10,fI .i64 g.1)]) (fun g=>[]) (fun g=>r16_Match_l4 N p0 v4 g.2 g.1=some r) (fun g=>g.2) (_,N) h ?_ ?_
 · (cbv;(try simp only [e_rnil hR]);repeat' (first | exact trivial | exact rfl | exact Or.inr trivial | apply And.intro))
 rintro ⟨v18,m4⟩ h Q4 hN4 hT4 hX4
 have h:r16_Match_l4 N p0 v4 m4 v18=some r:=h
 cases m4 with
 | zero=>exact nomatch (show (none:Option _)=some _ from h)
 | succ m4=>
 rw [r16_Match_l4] at h
 rw [q_ar hE,q_cm hE,q_ll hE,←hR] at h
 cbv
 refine L_if hE h (fun h=>?_) (fun h=>?_)<;>cbv
 · refine L_whole hE lay_ok (by kernel_rfl) (by kernel_rfl) ?_;cbv
   refine L_row hE hR h fun r19 h=>?_;cbv
   refine L_row hE hR h fun r20 h=>?_;cbv
   refine L_pcall hE hR h (fun _ e=>r16_in_w e) (by subst hR;rfl) rfl fun a21 h=>?_;cbv
   refine L_if hE h (fun h=>?_) (fun h=>?_)<;>cbv
   · refine hT4 _ ?_
     exact And.left (hQ _ _ _ rfl rfl (by cases h;subst hR;rfl))
   refine hN4 _ (_,m4) [] h (Nat.lt_succ_self _) trivial ?_;(cbv;(try simp only [e_rnil hR]);repeat' (first | exact trivial | exact rfl | exact Or.inr trivial | apply And.intro))
 refine hX4 _ _ ?_;cbv
 exact And.left (hQ _ _ _ rfl rfl (by cases h;subst hR;rfl))
theorem l16_SpotsMatch_w {N:Nat} {p0:GSpots} {p1:ByteArray} {r:Bool} (h:l16_SpotsMatch_g N p0 p1=some r):FunS Tryd.prog 3 [.agg [.t (.slc (rw _ cSet p0.Sets)),fB p0.None,.t (.slc (rw _ (cI .i64) p0.First)),.t (.slc (rw _ (cI .i64) p0.Last)),.t (.slc (rw _ (cLs (cI .i64)) p0.Next))],fS p1] (l16_SpotsMatch_s rw) r:=by
 refine fun_w lay_ok Tryd.call3 Tryd.func3 rfl ?_
 intro A W E Q R hE hR hf hQ;rcases W with ⟨ar,cm,conj,cv,sl,sc,ct,sa,ss,ll,_,_,_,_,mi,mx,_,_,_⟩
 rw [←hR]
 unfold l16_SpotsMatch_g at h
 rw [q_cm hE,q_sl hE,q_ll hE,←hR] at h
 cbv
 refine L_rgJ hE lay_ok h 1 (fun j1:Bool=>[(32,fB j1)]) (fun j1=>[]) (fun j1 h=>?_) (fun j1 h=>?_)<;>cbv
 · refine L_if hE h (fun h=>?_) (fun h=>?_)<;>cbv
   · cases h;(cbv;(try simp only [e_rnil hR]);repeat' (first | exact trivial | exact rfl | exact Or.inr trivial | apply And.intro))
   refine L_if hE h (fun h=>?_) (fun h=>?_)<;>cbv
   · cases h;(cbv;(try simp only [e_rnil hR]);repeat' (first | exact trivial | exact rfl | exact Or.inr trivial | apply And.intro))
   refine L_if hE h (fun h=>?_) (fun h=>?_)<;>cbv
   · cases h;(cbv;(try simp only [e_rnil hR]);repeat' (first | exact trivial | exact rfl | exact Or.inr trivial | apply And.intro))
   refine L_if hE h (fun h=>?_) (fun h=>?_)<;>cbv
   · cases h;(cbv;(try simp only [e_rnil hR]);repeat' (first | exact trivial | exact rfl | exact Or.inr trivial | apply And.intro))
   cases h;(cbv;(try simp only [e_rnil hR]);repeat' (first | exact trivial | exact rfl | exact Or.inr trivial | apply And.intro))
 refine L_if hE h (fun h=>?_) (fun h=>?_)<;>cbv
 · refine L_call hE hR h (fun _ e=>l16_works_w e) rfl rfl fun a1 h=>?_;cbv
   exact And.left (hQ _ _ _ rfl rfl (by cases h;subst hR;rfl))
 refine L_for hE lay_ok 1 (fun g:Int × Nat=>[(4,fB false),(5,fI .i64 g.1)]) (fun g=>[]) (fun g=>l16_SpotsMatch_l1 N p0 p1 g.2 g.1=some r) (fun g=>g.2) (_,N) h ?_ ?_
 · (cbv;(try simp only [e_rnil hR]);repeat' (first | exact trivial | exact rfl | exact Or.inr trivial | apply And.intro))
 rintro ⟨v2,m1⟩ h Q1 hN1 hT1 hX1
 have h:l16_SpotsMatch_l1 N p0 p1 m1 v2=some r:=h
 cases m1 with
 | zero=>exact nomatch (show (none:Option _)=some _ from h)
 | succ m1=>
 rw [l16_SpotsMatch_l1] at h
 rw [q_ar hE,q_cm hE,q_conj hE,q_ll hE,←hR] at h
 cbv
 refine L_if hE h (fun h=>?_) (fun h=>?_)<;>cbv
 · refine L_rowL hE hR h fun r3 h=>?_;cbv
   refine L_if hE h (fun h=>?_) (fun h=>?_)<;>cbv
   · refine L_call hE hR h (fun _ e=>l16_works_w e) rfl rfl fun a4 h=>?_;cbv
     refine hT1 _ ?_
     exact And.left (hQ _ _ _ rfl rfl (by cases h;subst hR;rfl))
   refine hN1 _ (_,m1) [] h (Nat.lt_succ_self _) trivial ?_;(cbv;(try simp only [e_rnil hR]);repeat' (first | exact trivial | exact rfl | exact Or.inr trivial | apply And.intro))
 refine hX1 _ _ ?_;cbv
 refine L_whole hE lay_ok (by kernel_rfl) (by kernel_rfl) ?_;cbv
 refine L_pcall hE hR h (fun _ e=>spots_Right_w e) (by subst hR;rfl) rfl fun a5 h=>?_;cbv
 refine L_pcall hE hR h (fun _ e=>r16_Right_w e) (by subst hR;rfl) rfl fun a6 h=>?_;cbv
 refine L_if hE h (fun h=>?_) (fun h=>?_)<;>cbv
 · refine L_if hE h (fun h=>?_) (fun h=>?_)<;>cbv
   · refine L_if hE h (fun h=>?_) (fun h=>?_)<;>cbv
     · refine L_pcall hE hR h (fun _ e=>spots_Match_w e) (by subst hR;rfl) rfl fun a7 h=>?_;cbv
       refine L_if hE h (fun h=>?_) (fun h=>?_)<;>cbv
       · refine L_if hE h (fun h=>?_) (fun h=>?_)<;>cbv
         · refine L_if hE h (fun h=>?_) (fun h=>?_)<;>cbv
           · refine L_pcall hE hR h (fun _ e=>r16_Match_w e) (by subst hR;rfl) rfl fun a8 h=>?_;cbv
             refine L_if hE h (fun h=>?_) (fun h=>?_)<;>cbv
             · refine L_if hE h (fun h=>?_) (fun h=>?_)<;>cbv
               · refine L_if hE h (fun h=>?_) (fun h=>?_)<;>cbv
                 · refine L_pcall hE hR h (fun _ e=>l16_works_w e) rfl rfl fun a9 h=>?_;cbv
                   refine L_if hE h (fun h=>?_) (fun h=>?_)<;>cbv
                   · exact And.left (hQ _ _ _ rfl rfl (by cases h;subst hR;rfl))
                   exact nomatch h
                 refine L_if hE h (fun h=>?_) (fun h=>?_)<;>cbv
                 · exact nomatch h
                 exact And.left (hQ _ _ _ rfl rfl (by cases h;subst hR;rfl))
               exact nomatch h
             exact nomatch h
           exact nomatch h
         exact nomatch h
       exact nomatch h
     exact nomatch h
   exact nomatch h
 refine L_if hE h (fun h=>?_) (fun h=>?_)<;>cbv
 · exact nomatch h
 refine L_if hE h (fun h=>?_) (fun h=>?_)<;>cbv
 · exact nomatch h
 refine L_if hE h (fun h=>?_) (fun h=>?_)<;>cbv
 · exact nomatch h
 refine L_if hE h (fun h=>?_) (fun h=>?_)<;>cbv
 · exact nomatch h
 refine L_if hE h (fun h=>?_) (fun h=>?_)<;>cbv
 · exact nomatch h
 refine L_if hE h (fun h=>?_) (fun h=>?_)<;>cbv
 · exact nomatch h
 refine L_if hE h (fun h=>?_) (fun h=>?_)<;>cbv
 · exact nomatch h
 refine L_f hE ?_;cbv
 refine L_f hE ?_;cbv
 exact And.left (hQ _ _ _ rfl rfl (by cases h;subst hR;rfl))
end Gn
end Go.Proofs.YtbpihhelojjedaaDoor
namespace Go.Proofs.YtbpihhelojjedaaDoor
open Go Go.RowKit Go.ChangeShapes Go.WideShapes
theorem addr_off (b o j:Nat):(⟨b,o,none⟩:Addr).add j=⟨b,o+j,none⟩:=by simp [Addr.add]
def Fits (A:Option Addr) (n cap:Nat):Prop:=n≤cap∧(A=none→cap=0)
theorem Fits.none_:Fits none 0 0:=⟨Nat.le_refl _,fun _=>rfl⟩
section
variable {α:Type}
def RowsAt (n:Nat) (R:α→List Value→Prop) (G:Nat→Prop) (w:World) (A:Option Addr) (xs:List α):Prop:=
 0<xs.length→∃b o,A=some ⟨b,o,none⟩∧G b∧∀(k:Nat) (h:k<xs.length),∃cs,R xs[k] cs∧∀j u,cs[j]?=some u→w.cell? ⟨b,o+k*n+j,none⟩=some u
def Kept (G:Nat→Prop) (w w':World):Prop:=∀b,G b→w'.heap[b]?=w.heap[b]?
theorem Kept.cell {G:Nat→Prop} {w w':World} (h:Kept G w w') {b:Nat} (hb:G b) (o:Nat):w'.cell? ⟨b,o,none⟩=w.cell? ⟨b,o,none⟩:=World.cell?_of_block (h b hb)
theorem rows_nil {n:Nat} {R:α→List Value→Prop} {G:Nat→Prop} {w:World} {A:Option Addr}:RowsAt n R G w A ([]:List α):=fun h=>absurd h (by simp)
end
section
variable {H:Type} {enc:TypeId × Value→H} {P:Program} {W:World} {sp:Nat→Bool} {held:Bool}
theorem cell_place {a:Addr} {u:Value} (h:W.cell? a=some u):a=⟨a.block,a.off,none⟩∧a.block<W.heap.size:=by
 unfold World.cell? at h
 cases hb:W.heap[a.block]? with
 | none=>rw [hb] at h;cases h
 | some o=>
   rw [hb] at h
   refine ⟨?_,(Array.getElem?_eq_some_iff.1 hb).1⟩
   cases o with
   | cells c t fr=>
     dsimp only at h
     cases hs:a.spot with
     | none=>cases a;simp at hs;subst hs;rfl
     | some x=>rw [hs] at h;simp at h
   | _=>cases h
theorem rows_open {α:Type} {T e:TypeId} {n:Nat} {R:α→List Value→Prop} (hT:P.underlying T=some (.slice e)) (hn:P.cellsOf e=n) (hn0:0<n)
 (hR:∀(fuel:Nat) (cs:List Value) (x:DataW H × List MemPlace),DataW.trod enc P W 0 sp held fuel e cs=some x→∃a,R a cs∧cs.length=n) {fuel:Nat} {v:Value} {x:DataW H × List MemPlace}
 (h:DataW.trod enc P W 0 sp held fuel T [v]=some x):∃(A:Option Addr) (xs:List α) (cap:Nat),v=.slice A xs.length cap∧Fits A xs.length cap∧xs.length≤maxLen∧RowsAt n R (fun b=>b<W.heap.size) W A xs:=by
 rcases DataW.trod_slice hT h with ⟨e5,-⟩ | ⟨a,len,cap,elems,rest,m,rfl,e5,-,-,hlc,hcm,hel,hat,-,-⟩
 · injection e5 with e5 _
   exact ⟨none,[],0,e5,Fits.none_,Nat.zero_le _,rows_nil⟩
 · injection e5 with e5 _
   rw [hn] at hat
   have key:∀i,i≤len→∃(xs:List α),xs.length=i∧∀(k:Nat) (hk:k<xs.length),∃cs,R xs[k] cs∧cs.length=n∧∀j u,cs[j]?=some u→W.cell? (a.add (k*n+j))=some u:=by
    intro i
    induction i with
    | zero=>intro _;exact ⟨[],rfl,fun k hk=>absurd hk (by simp)⟩
    | succ i ih=>
      intro hi
      obtain ⟨xs,hl,hc⟩:=ih (by omega)
      have h1:=hat i (by omega)
      rw [List.getElem?_eq_getElem (by omega)] at h1
      obtain ⟨cs',h2,h3⟩:=Option.bind_eq_some_iff.1 h1
      obtain ⟨y,hy,hyl⟩:=hR m cs' _ h3
      obtain ⟨_,_,h4⟩:=World.cells?_some h2
      refine ⟨xs++[y],by rw [List.length_append,hl];rfl,fun k hk=>?_⟩
      rcases Nat.lt_or_ge k xs.length with hlt | hge
      · obtain ⟨cs,h5,h6,h7⟩:=hc k hlt
        refine ⟨cs,?_,h6,h7⟩
        rw [List.getElem_append_left hlt]
        exact h5
      · have hkl:k<xs.length+1:=by simpa using hk
        obtain rfl:k=xs.length:=by omega
        refine ⟨cs',?_,hyl,fun j u hj=>?_⟩
        · rw [List.getElem_append_right (Nat.le_refl _)]
          simpa using hy
        · have hj':j<n:=by rw [←hyl];exact (List.getElem?_eq_some_iff.1 hj).1
          have h8:=h4 j hj'
          rw [hj,Go.Deep.add_add,←hl] at h8
          exact h8
   obtain ⟨xs,hl,hc⟩:=key len (Nat.le_refl _)
   subst hl
   refine ⟨some a,xs,cap,e5,⟨hlc,fun h=>by cases h⟩,Nat.le_trans hlc hcm,fun hpos=>?_⟩
   obtain ⟨cs0,_,hl0,h0⟩:=hc 0 hpos
   have h1:=h0 0 _ (List.getElem?_eq_getElem (by omega))
   have ha0:a.add (0*n+0)=a:=by unfold Addr.add;simp
   rw [ha0] at h1
   obtain ⟨h2,h3⟩:=cell_place h1
   refine ⟨a.block,a.off,congrArg some h2,h3,fun k hk=>?_⟩
   obtain ⟨cs,h4,_,h5⟩:=hc k hk
   refine ⟨cs,h4,fun j u hj=>?_⟩
   have h6:=h5 j u hj
   rw [h2,addr_off,←Nat.add_assoc] at h6
   exact h6
end
end Go.Proofs.YtbpihhelojjedaaDoor
