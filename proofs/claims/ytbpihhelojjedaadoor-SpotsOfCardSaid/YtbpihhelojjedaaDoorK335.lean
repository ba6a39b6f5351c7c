/- Texts that the proof leans on. -/
import Derived.Test.YtbpihhelojjedaaDoorK331
import Derived.Test.YtbpihhelojjedaaDoorK334
set_option linter.unusedVariables false
set_option linter.unusedSimpArgs false
set_option maxRecDepth 100000
set_option maxHeartbeats 4000000
namespace Go.Proofs.YtbpihhelojjedaaDoor
open Go Go.RowKit
open Ab Sh
namespace Gn
theorem r16_Right_w {N:Nat} {p0:GSpots} {r:Bool} (h:r16_Right_g N p0=some r):FunS Tryd.prog 8 [.agg [.t (.slc (rw _ cSet p0.Sets)),fB p0.None,.t (.slc (rw _ (cI .i64) p0.First)),.t (.slc (rw _ (cI .i64) p0.Last)),.t (.slc (rw _ (cLs (cI .i64)) p0.Next))]] (r16_Right_s rw) r:=by
 refine fun_w lay_ok Tryd.call8 Tryd.func8 rfl ?_
 intro A W E Q R hE hR hf hQ;rcases W with ⟨ar,cm,conj,cv,sl,sc,ct,sa,ss,ll,_,_,_,_,mi,mx,_,_,_⟩
 rw [←hR]
 unfold r16_Right_g at h
 rw [q_cm hE,q_ll hE,←hR] at h
 cbv
 refine L_rgJ hE lay_ok h 1 (fun j1:Bool=>[(30,fB j1)]) (fun j1=>[]) (fun j1 h=>?_) (fun j1 h=>?_)<;>cbv
 · refine L_if hE h (fun h=>?_) (fun h=>?_)<;>cbv
   · cases h;(cbv;(try simp only [e_rnil hR]);repeat' (first | exact trivial | exact rfl | exact Or.inr trivial | apply And.intro))
   refine L_if hE h (fun h=>?_) (fun h=>?_)<;>cbv
   · cases h;(cbv;(try simp only [e_rnil hR]);repeat' (first | exact trivial | exact rfl | exact Or.inr trivial | apply And.intro))
   refine L_call hE hR h (fun _ e=>r16_rising_w e) (by subst hR;rfl) rfl fun a1 h=>?_;cbv
   refine L_if hE h (fun h=>?_) (fun h=>?_)<;>cbv
   · cases h;(cbv;(try simp only [e_rnil hR]);repeat' (first | exact trivial | exact rfl | exact Or.inr trivial | apply And.intro))
   refine L_call hE hR h (fun _ e=>r16_rising_w e) (by subst hR;rfl) rfl fun a2 h=>?_;cbv
   cases h;(cbv;(try simp only [e_rnil hR]);repeat' (first | exact trivial | exact rfl | exact Or.inr trivial | apply And.intro))
 refine L_if hE h (fun h=>?_) (fun h=>?_)<;>cbv
 · exact And.left (hQ _ _ _ rfl rfl (by cases h;subst hR;rfl))
 refine L_for hE lay_ok 1 (fun g:Int × Nat=>[(2,fB false),(4,fI .i64 g.1)]) (fun g=>[]) (fun g=>r16_Right_l1 N p0 g.2 g.1=some r) (fun g=>g.2) (_,N) h ?_ ?_
 · (cbv;(try simp only [e_rnil hR]);repeat' (first | exact trivial | exact rfl | exact Or.inr trivial | apply And.intro))
 rintro ⟨v3,m1⟩ h Q1 hN1 hT1 hX1
 have h:r16_Right_l1 N p0 m1 v3=some r:=h
 cases m1 with
 | zero=>exact nomatch (show (none:Option _)=some _ from h)
 | succ m1=>
 rw [r16_Right_l1] at h
 rw [q_ar hE,q_cm hE,q_ll hE,←hR] at h
 cbv
 refine L_if hE h (fun h=>?_) (fun h=>?_)<;>cbv
 · refine L_rowL hE hR h fun r4 h=>?_;cbv
   refine L_call hE hR h (fun _ e=>r16_rising_w e) (by subst hR;rfl) rfl fun a5 h=>?_;cbv
   refine L_if hE h (fun h=>?_) (fun h=>?_)<;>cbv
   · refine hT1 _ ?_
     exact And.left (hQ _ _ _ rfl rfl (by cases h;subst hR;rfl))
   refine hN1 _ (_,m1) [] h (Nat.lt_succ_self _) trivial ?_;(cbv;(try simp only [e_rnil hR]);repeat' (first | exact trivial | exact rfl | exact Or.inr trivial | apply And.intro))
 refine hX1 _ _ ?_;cbv
 exact And.left (hQ _ _ _ rfl rfl (by cases h;subst hR;rfl))
theorem r16_in_w {N:Nat} {p0:List Int} {p1:Int} {r:Bool} (h:r16_in_g N p0 p1=some r):FunS Tryd.prog 29 [.t (.slc (rw _ (cI .i64) p0)),fI .i64 p1] (r16_in_s rw) r:=by
 refine fun_w lay_ok Tryd.call29 Tryd.func29 rfl ?_
 intro A W E Q R hE hR hf hQ;rcases W with ⟨ar,cm,conj,cv,sl,sc,ct,sa,ss,ll,_,_,_,_,mi,mx,_,_,_⟩
 rw [←hR]
 unfold r16_in_g at h
 skip
 cbv
 refine L_for hE lay_ok 0 (fun g:Int × Nat=>[(4,fB false),(5,fI .i64 g.1)]) (fun g=>[]) (fun g=>r16_in_l1 p0 p1 g.2 g.1=some r) (fun g=>g.2) (_,N) h ?_ ?_
 · (cbv;(try simp only [e_rnil hR]);repeat' (first | exact trivial | exact rfl | exact Or.inr trivial | apply And.intro))
 rintro ⟨v1,m1⟩ h Q1 hN1 hT1 hX1
 have h:r16_in_l1 p0 p1 m1 v1=some r:=h
 cases m1 with
 | zero=>exact nomatch (show (none:Option _)=some _ from h)
 | succ m1=>
 rw [r16_in_l1] at h
 rw [q_ar hE,q_cm hE,q_ll hE,←hR] at h
 cbv
 refine L_if hE h (fun h=>?_) (fun h=>?_)<;>cbv
 · refine L_row hE hR h fun r2 h=>?_;cbv
   refine L_if hE h (fun h=>?_) (fun h=>?_)<;>cbv
   · refine hT1 _ ?_
     exact And.left (hQ _ _ _ rfl rfl (by cases h;subst hR;rfl))
   refine hN1 _ (_,m1) [] h (Nat.lt_succ_self _) trivial ?_;(cbv;(try simp only [e_rnil hR]);repeat' (first | exact trivial | exact rfl | exact Or.inr trivial | apply And.intro))
 refine hX1 _ _ ?_;cbv
 exact And.left (hQ _ _ _ rfl rfl (by cases h;subst hR;rfl))
theorem r16_Join_w {N:Nat} {p0:List Int} {p1:List Int} {p2:Int} {r:List Int} (h:r16_Join_g N p0 p1 p2=some r):FunS Tryd.prog 28 [.t (.slc (rw _ (cI .i64) p0)),.t (.slc (rw _ (cI .i64) p1)),fI .i64 p2] (r16_Join_s rw) r:=by
 refine fun_w lay_ok Tryd.call28 Tryd.func28 rfl ?_
 intro A W E Q R hE hR hf hQ;rcases W with ⟨ar,cm,conj,cv,sl,sc,ct,sa,ss,ll,_,_,_,_,mi,mx,_,_,_⟩
 rw [←hR]
 unfold r16_Join_g at h
 skip
 cbv
 refine L_for hE lay_ok 0 (fun g:Int ×(List Int)× Nat=>[(7,.lst 0),(8,fI .i64 g.1)]) (fun g=>[(0,.list 3 1 (R _ (cI .i64) g.2.1))]) (fun g=>r16_Join_l1 N p0 p1 p2 g.2.2 g.1 g.2.1=some r) (fun g=>g.2.2) (_,_,N) h ?_ ?_
 · (cbv;(try simp only [e_rnil hR]);repeat' (first | exact trivial | exact rfl | exact Or.inr trivial | apply And.intro))
 rintro ⟨v1,v2,m1⟩ h Q1 hN1 hT1 hX1
 have h:r16_Join_l1 N p0 p1 p2 m1 v1 v2=some r:=h
 cases m1 with
 | zero=>exact nomatch (show (none:Option _)=some _ from h)
 | succ m1=>
 rw [r16_Join_l1] at h
 rw [q_ar hE,q_cm hE] at h
 cbv
 refine L_if hE h (fun h=>?_) (fun h=>?_)<;>cbv
 · refine L_rgJ hE lay_ok h 1 (fun j3:Bool=>[(21,fB j3)]) (fun j3=>[]) (fun j3 h=>?_) (fun j3 h=>?_)<;>cbv
   · refine L_call hE hR h (fun _ e=>r16_in_w e) (by subst hR;rfl) rfl fun a3 h=>?_;cbv
     refine L_if hE h (fun h=>?_) (fun h=>?_)<;>cbv
     · cases h;(cbv;(try simp only [e_rnil hR]);repeat' (first | exact trivial | exact rfl | exact Or.inr trivial | apply And.intro))
     refine L_call hE hR h (fun _ e=>r16_in_w e) (by subst hR;rfl) rfl fun a4 h=>?_;cbv
     cases h;(cbv;(try simp only [e_rnil hR]);repeat' (first | exact trivial | exact rfl | exact Or.inr trivial | apply And.intro))
   refine L_cdJ hE lay_ok h 1 (fun j4:(List Int)=>[(7,.lst 0)]) (fun j4=>[(0,.list 3 1 (R _ (cI .i64) j4))]) (fun j4 h=>?_) (fun j4 h=>?_)<;>cbv
   · refine L_if hE h (fun h=>?_) (fun h=>?_)<;>cbv
     · refine L_appL hE hR h rfl (hf _) (fun _=>rfl) (by decide) fun l5 e h=>?_;cbv at e;rw [e];clear e
       cases h;(cbv;(try simp only [e_rnil hR]);repeat' (first | exact trivial | exact rfl | exact Or.inr trivial | apply And.intro))
     cases h;(cbv;(try simp only [e_rnil hR]);repeat' (first | exact trivial | exact rfl | exact Or.inr trivial | apply And.intro))
   refine hN1 _ (_,_,m1) [] h (Nat.lt_succ_self _) trivial ?_;(cbv;(try simp only [e_rnil hR]);repeat' (first | exact trivial | exact rfl | exact Or.inr trivial | apply And.intro))
 refine hX1 _ _ ?_;cbv
 exact And.left (hQ _ _ _ rfl rfl (by cases h;subst hR;rfl))
end Gn
end Go.Proofs.YtbpihhelojjedaaDoor
namespace Go.Proofs.YtbpihhelojjedaaDoor
open Go Go.RowKit
open Ab Sh
namespace Gn
theorem spots_Count_w {N:Nat} {p0:Node} {r:Int} (h:spots_Count_g N p0=some r):FunS Tryd.prog 12 [.agg [fI .i64 p0.kind,fI .u64 (p0.set.a.toNat:Int),fI .u64 (p0.set.b.toNat:Int),fI .u64 (p0.set.c.toNat:Int),fI .u64 (p0.set.d.toNat:Int),.t (.slc (rw _ nodeRow p0.kids)),fI .i64 p0.min,fI .i64 p0.max]] (spots_Count_s rw) r:=by
 refine fun_w lay_ok Tryd.call12 Tryd.func12 rfl ?_
 intro A W E Q R hE hR hf hQ;rcases W with ⟨ar,cm,conj,cv,sl,sc,ct,sa,ss,ll,_,_,_,_,mi,mx,_,_,_⟩
 rw [←hR]
 unfold spots_Count_g at h
 skip
 cbv
 refine L_call hE hR h (fun _ e=>regex_Right_w e) (by subst hR;rfl) rfl fun a1 h=>?_;cbv
 refine L_if hE h (fun h=>?_) (fun h=>?_)<;>cbv
 · exact And.left (hQ _ _ _ rfl rfl (by cases h;subst hR;rfl))
 refine L_call hE hR h (fun _ e=>spots_count_w e) (by subst hR;rfl) rfl fun a2 h=>?_;cbv
 exact And.left (hQ _ _ _ rfl rfl (by cases h;subst hR;rfl))
theorem r13_Size_w:∀{N:Nat} {p0:Node} {r:Int × Int},r13_Size_g N p0=some r→FunS Tryd.prog 30 [.agg [fI .i64 p0.kind,fI .u64 (p0.set.a.toNat:Int),fI .u64 (p0.set.b.toNat:Int),fI .u64 (p0.set.c.toNat:Int),fI .u64 (p0.set.d.toNat:Int),.t (.slc (rw _ nodeRow p0.kids)),fI .i64 p0.min,fI .i64 p0.max]] (r13_Size_s rw) r:=by
 intro N
 induction N with
 | zero=>intros;rename_i h;exact nomatch (show (none:Option _)=some _ from h)
 | succ N ih=>
 intro p0 r h
 refine fun_w lay_ok Tryd.call30 Tryd.func30 rfl ?_
 intro A W E Q R hE hR hf hQ;rcases W with ⟨ar,cm,conj,cv,sl,sc,ct,sa,ss,ll,_,_,_,_,mi,mx,_,_,_⟩
 rw [←hR]
 rw [r13_Size_g] at h
 skip
 cbv
 refine L_for hE lay_ok 1 (fun g:Int × Int × Int × Nat=>[(4,fI .i64 g.1),(5,fI .i64 g.2.1),(6,fI .i64 g.2.2.1)]) (fun g=>[]) (fun g=>r13_Size_l1 (r13_Size_g N) p0 g.2.2.2 g.1 g.2.1 g.2.2.1=some r) (fun g=>g.2.2.2) (_,_,_,N) h ?_ ?_
 · (cbv;(try simp only [e_rnil hR]);repeat' (first | exact trivial | exact rfl | exact Or.inr trivial | apply And.intro))
 rintro ⟨v1,v2,v3,m1⟩ h Q1 hN1 hT1 hX1
 have h:r13_Size_l1 (r13_Size_g N) p0 m1 v1 v2 v3=some r:=h
 cases m1 with
 | zero=>exact nomatch (show (none:Option _)=some _ from h)
 | succ m1=>
 rw [r13_Size_l1] at h
 rw [q_ar hE,q_cm hE,q_ll hE,←hR] at h
 cbv
 refine L_if hE h (fun h=>?_) (fun h=>?_)<;>cbv
 · refine L_rowN hE hR h fun r4 h=>?_;cbv
   refine L_call hE hR h (fun _ e=>ih e) (by subst hR;rfl) rfl fun a5 h=>?_;cbv
   refine L_cdJ hE lay_ok h 1 (fun j1:Int=>[(5,fI .i64 j1)]) (fun j1=>[]) (fun j1 h=>?_) (fun j1 h=>?_)<;>cbv
   · refine L_if hE h (fun h=>?_) (fun h=>?_)<;>cbv
     · cases h;(cbv;(try simp only [e_rnil hR]);repeat' (first | exact trivial | exact rfl | exact Or.inr trivial | apply And.intro))
     cases h;(cbv;(try simp only [e_rnil hR]);repeat' (first | exact trivial | exact rfl | exact Or.inr trivial | apply And.intro))
   refine hN1 _ (_,_,_,m1) [] h (Nat.lt_succ_self _) trivial ?_;(cbv;(try simp only [e_rnil hR]);repeat' (first | exact trivial | exact rfl | exact Or.inr trivial | apply And.intro))
 refine hX1 _ _ ?_;cbv
 exact And.left (hQ _ _ _ rfl rfl (by cases h;subst hR;rfl))
theorem l13_Great_w {N:Nat} {p0:Node} {r:Bool} (h:l13_Great_g N p0=some r):FunS Tryd.prog 11 [.agg [fI .i64 p0.kind,fI .u64 (p0.set.a.toNat:Int),fI .u64 (p0.set.b.toNat:Int),fI .u64 (p0.set.c.toNat:Int),fI .u64 (p0.set.d.toNat:Int),.t (.slc (rw _ nodeRow p0.kids)),fI .i64 p0.min,fI .i64 p0.max]] (l13_Great_s rw) r:=by
 refine fun_w lay_ok Tryd.call11 Tryd.func11 rfl ?_
 intro A W E Q R hE hR hf hQ;rcases W with ⟨ar,cm,conj,cv,sl,sc,ct,sa,ss,ll,_,_,_,_,mi,mx,_,_,_⟩
 rw [←hR]
 unfold l13_Great_g at h
 rw [q_cm hE] at h
 cbv
 refine L_call hE hR h (fun _ e=>r13_Size_w e) (by subst hR;rfl) rfl fun a1 h=>?_;cbv
 refine L_rgJ hE lay_ok h 1 (fun j1:Bool=>[(2,fB j1)]) (fun j1=>[]) (fun j1 h=>?_) (fun j1 h=>?_)<;>cbv
 · refine L_if hE h (fun h=>?_) (fun h=>?_)<;>cbv
   · cases h;(cbv;(try simp only [e_rnil hR]);repeat' (first | exact trivial | exact rfl | exact Or.inr trivial | apply And.intro))
   cases h;(cbv;(try simp only [e_rnil hR]);repeat' (first | exact trivial | exact rfl | exact Or.inr trivial | apply And.intro))
 exact And.left (hQ _ _ _ rfl rfl (by cases h;subst hR;rfl))
end Gn
end Go.Proofs.YtbpihhelojjedaaDoor
namespace Go.Proofs.YtbpihhelojjedaaDoor
open Go Go.RowKit
open Ab Sh
namespace Gn
theorem r13_times_w {p0:Int} {p1:Int} {r:Bool} (h:r13_times_g p0 p1=some r):FunS Tryd.prog 46 [fI .i64 p0,fI .i64 p1] (r13_times_s rw) r:=by
 refine fun_w lay_ok Tryd.call46 Tryd.func46 rfl ?_
 intro A W E Q R hE hR hf hQ;rcases W with ⟨ar,cm,conj,cv,sl,sc,ct,sa,ss,ll,_,_,_,_,mi,mx,_,_,_,_,_⟩
 unfold r13_times_g at h
 rw [q_cm hE] at h
 cbv
 refine L_rgJ hE lay_ok h 0 (fun j1:Bool=>[(22,fB j1)]) (fun j1=>[]) (fun j1 h=>?_) (fun j1 h=>?_)<;>cbv
 · refine L_if hE h (fun h=>?_) (fun h=>?_)<;>cbv
   · cases h;(cbv;(try simp only [e_rnil hR]);repeat' (first | exact trivial | exact rfl | exact Or.inr trivial | apply And.intro))
   refine L_if hE h (fun h=>?_) (fun h=>?_)<;>cbv
   · cases h;(cbv;(try simp only [e_rnil hR]);repeat' (first | exact trivial | exact rfl | exact Or.inr trivial | apply And.intro))
   refine L_if hE h (fun h=>?_) (fun h=>?_)<;>cbv
   · cases h;(cbv;(try simp only [e_rnil hR]);repeat' (first | exact trivial | exact rfl | exact Or.inr trivial | apply And.intro))
   refine L_if hE h (fun h=>?_) (fun h=>?_)<;>cbv
   · cases h;(cbv;(try simp only [e_rnil hR]);repeat' (first | exact trivial | exact rfl | exact Or.inr trivial | apply And.intro))
   cases h;(cbv;(try simp only [e_rnil hR]);repeat' (first | exact trivial | exact rfl | exact Or.inr trivial | apply And.intro))
 refine L_if hE h (fun h=>?_) (fun h=>?_)<;>cbv
 · exact And.left (hQ _ _ _ rfl rfl (by cases h;subst hR;rfl))
 refine L_rgJ hE lay_ok h 0 (fun j2:Bool=>[(4,fB j2)]) (fun j2=>[]) (fun j2 h=>?_) (fun j2 h=>?_)<;>cbv
 · refine L_if hE h (fun h=>?_) (fun h=>?_)<;>cbv
   · cases h;(cbv;(try simp only [e_rnil hR]);repeat' (first | exact trivial | exact rfl | exact Or.inr trivial | apply And.intro))
   cases h;(cbv;(try simp only [e_rnil hR]);repeat' (first | exact trivial | exact rfl | exact Or.inr trivial | apply And.intro))
 exact And.left (hQ _ _ _ rfl rfl (by cases h;subst hR;rfl))
theorem r13_Right_w : ∀ {N :Nat} {p0:Node} {r:Bool},r13_Right_g N p0=some r→FunS Tryd.prog 32 [.agg [fI .i64 p0.kind,fI .u64 (p0.set.a.toNat:Int),fI .u64 (p0.set.b.toNat:Int),fI .u64 (p0.set.c.toNat:Int),fI .u64 (p0.set.d.toNat:Int),.t (.slc (rw _ nodeRow p0.kids)),fI .i64 p0.min,fI .i64 p0.max]] (r13_Right_s rw) r:=by
 intro N
 induction N with
 | zero=>intros;rename_i h;exact nomatch (show (none:Option _)=some _ from h)
 | succ N ih=>
 intro p0 r h
 refine fun_w lay_ok Tryd.call32 Tryd.func32 rfl ?_
 intro A W E Q R hE hR hf hQ;rcases W with ⟨ar,cm,conj,cv,sl,sc,ct,sa,ss,ll,_,_,_,_,mi,mx,_,_,_,_,_⟩
 rw [←hR]
 rw [r13_Right_g] at h
 rw [q_cm hE,q_conj hE,q_ll hE,←hR] at h
 cbv
 refine L_rgJ hE lay_ok h 1 (fun j1:Bool=>[(13,fB j1)]) (fun j1=>[]) (fun j1 h=>?_) (fun j1 h=>?_)<;>cbv
 · refine L_if hE h (fun h=>?_) (fun h=>?_)<;>cbv
   · cases h;(cbv;(try simp only [e_rnil hR]);repeat' (first | exact trivial | exact rfl | exact Or.inr trivial | apply And.intro))
   cases h;(cbv;(try simp only [e_rnil hR]);repeat' (first | exact trivial | exact rfl | exact Or.inr trivial | apply And.intro))
 refine L_if hE h (fun h=>?_) (fun h=>?_)<;>cbv
 · exact And.left (hQ _ _ _ rfl rfl (by cases h;subst hR;rfl))
 refine L_rgJ hE lay_ok h 2 (fun j2:Bool=>[(37,fB j2)]) (fun j2=>[]) (fun j2 h=>?_) (fun j2 h=>?_)<;>cbv
 · refine L_if hE h (fun h=>?_) (fun h=>?_)<;>cbv
   · refine L_if hE h (fun h=>?_) (fun h=>?_)<;>cbv
     · cases h;(cbv;(try simp only [e_rnil hR]);repeat' (first | exact trivial | exact rfl | exact Or.inr trivial | apply And.intro))
     refine L_if hE h (fun h=>?_) (fun h=>?_)<;>cbv
     · refine L_if hE h (fun h=>?_) (fun h=>?_)<;>cbv
       · cases h;(cbv;(try simp only [e_rnil hR]);repeat' (first | exact trivial | exact rfl | exact Or.inr trivial | apply And.intro))
       cases h;(cbv;(try simp only [e_rnil hR]);repeat' (first | exact trivial | exact rfl | exact Or.inr trivial | apply And.intro))
     cases h;(cbv;(try simp only [e_rnil hR]);repeat' (first | exact trivial | exact rfl | exact Or.inr trivial | apply And.intro))
   refine L_if hE h (fun h=>?_) (fun h=>?_)<;>cbv
   · refine L_if hE h (fun h=>?_) (fun h=>?_)<;>cbv
     · cases h;(cbv;(try simp only [e_rnil hR]);repeat' (first | exact trivial | exact rfl | exact Or.inr trivial | apply And.intro))
     cases h;(cbv;(try simp only [e_rnil hR]);repeat' (first | exact trivial | exact rfl | exact Or.inr trivial | apply And.intro))
   cases h;(cbv;(try simp only [e_rnil hR]);repeat' (first | exact trivial | exact rfl | exact Or.inr trivial | apply And.intro))
 refine L_if hE h (fun h=>?_) (fun h=>?_)<;>cbv
 · exact And.left (hQ _ _ _ rfl rfl (by cases h;subst hR;rfl))
 refine L_rgJ hE lay_ok h 2 (fun j3:Bool=>[(82,fB j3)]) (fun j3=>[]) (fun j3 h=>?_) (fun j3 h=>?_)<;>cbv
 · refine L_if hE h (fun h=>?_) (fun h=>?_)<;>cbv
   · refine L_if hE h (fun h=>?_) (fun h=>?_)<;>cbv
     · cases h;(cbv;(try simp only [e_rnil hR]);repeat' (first | exact trivial | exact rfl | exact Or.inr trivial | apply And.intro))
     refine L_if hE h (fun h=>?_) (fun h=>?_)<;>cbv
     · refine L_if hE h (fun h=>?_) (fun h=>?_)<;>cbv
       · cases h;(cbv;(try simp only [e_rnil hR]);repeat' (first | exact trivial | exact rfl | exact Or.inr trivial | apply And.intro))
       refine L_if hE h (fun h=>?_) (fun h=>?_)<;>cbv
       · refine L_if hE h (fun h=>?_) (fun h=>?_)<;>cbv
         · cases h;(cbv;(try simp only [e_rnil hR]);repeat' (first | exact trivial | exact rfl | exact Or.inr trivial | apply And.intro))
         refine L_if hE h (fun h=>?_) (fun h=>?_)<;>cbv
         · refine L_if hE h (fun h=>?_) (fun h=>?_)<;>cbv
           · cases h;(cbv;(try simp only [e_rnil hR]);repeat' (first | exact trivial | exact rfl | exact Or.inr trivial | apply And.intro))
           refine L_call hE hR h (fun _ e=>r13_times_w e) rfl rfl fun a1 h=>?_;cbv
           cases h;(cbv;(try simp only [e_rnil hR]);repeat' (first | exact trivial | exact rfl | exact Or.inr trivial | apply And.intro))
         cases h;(cbv;(try simp only [e_rnil hR]);repeat' (first | exact trivial | exact rfl | exact Or.inr trivial | apply And.intro))
       refine L_if hE h (fun h=>?_) (fun h=>?_)<;>cbv
       · refine L_if hE h (fun h=>?_) (fun h=>?_)<;>cbv
         · cases h;(cbv;(try simp only [e_rnil hR]);repeat' (first | exact trivial | exact rfl | exact Or.inr trivial | apply And.intro))
         refine L_call hE hR h (fun _ e=>r13_times_w e) rfl rfl fun a2 h=>?_;cbv
         cases h;(cbv;(try simp only [e_rnil hR]);repeat' (first | exact trivial | exact rfl | exact Or.inr trivial | apply And.intro))
       cases h;(cbv;(try simp only [e_rnil hR]);repeat' (first | exact trivial | exact rfl | exact Or.inr trivial | apply And.intro))
     refine L_if hE h (fun h=>?_) (fun h=>?_)<;>cbv
     · refine L_if hE h (fun h=>?_) (fun h=>?_)<;>cbv
       · cases h;(cbv;(try simp only [e_rnil hR]);repeat' (first | exact trivial | exact rfl | exact Or.inr trivial | apply And.intro))
       refine L_if hE h (fun h=>?_) (fun h=>?_)<;>cbv
       · refine L_if hE h (fun h=>?_) (fun h=>?_)<;>cbv
         · cases h;(cbv;(try simp only [e_rnil hR]);repeat' (first | exact trivial | exact rfl | exact Or.inr trivial | apply And.intro))
         refine L_call hE hR h (fun _ e=>r13_times_w e) rfl rfl fun a3 h=>?_;cbv
         cases h;(cbv;(try simp only [e_rnil hR]);repeat' (first | exact trivial | exact rfl | exact Or.inr trivial | apply And.intro))
       cases h;(cbv;(try simp only [e_rnil hR]);repeat' (first | exact trivial | exact rfl | exact Or.inr trivial | apply And.intro))
     refine L_if hE h (fun h=>?_) (fun h=>?_)<;>cbv
     · refine L_if hE h (fun h=>?_) (fun h=>?_)<;>cbv
       · cases h;(cbv;(try simp only [e_rnil hR]);repeat' (first | exact trivial | exact rfl | exact Or.inr trivial | apply And.intro))
       refine L_call hE hR h (fun _ e=>r13_times_w e) rfl rfl fun a4 h=>?_;cbv
       cases h;(cbv;(try simp only [e_rnil hR]);repeat' (first | exact trivial | exact rfl | exact Or.inr trivial | apply And.intro))
     cases h;(cbv;(try simp only [e_rnil hR]);repeat' (first | exact trivial | exact rfl | exact Or.inr trivial | apply And.intro))
   refine L_if hE h (fun h=>?_) (fun h=>?_)<;>cbv
   · refine L_if hE h (fun h=>?_) (fun h=>?_)<;>cbv
     · cases h;(cbv;(try simp only [e_rnil hR]);repeat' (first | exact trivial | exact rfl | exact Or.inr trivial | apply And.intro))
     refine L_if hE h (fun h=>?_) (fun h=>?_)<;>cbv
     · refine L_if hE h (fun h=>?_) (fun h=>?_)<;>cbv
       · cases h;(cbv;(try simp only [e_rnil hR]);repeat' (first | exact trivial | exact rfl | exact Or.inr trivial | apply And.intro))
       refine L_if hE h (fun h=>?_) (fun h=>?_)<;>cbv
       · refine L_if hE h (fun h=>?_) (fun h=>?_)<;>cbv
         · cases h;(cbv;(try simp only [e_rnil hR]);repeat' (first | exact trivial | exact rfl | exact Or.inr trivial | apply And.intro))
         refine L_call hE hR h (fun _ e=>r13_times_w e) rfl rfl fun a5 h=>?_;cbv
         cases h;(cbv;(try simp only [e_rnil hR]);repeat' (first | exact trivial | exact rfl | exact Or.inr trivial | apply And.intro))
       cases h;(cbv;(try simp only [e_rnil hR]);repeat' (first | exact trivial | exact rfl | exact Or.inr trivial | apply And.intro))
     refine L_if hE h (fun h=>?_) (fun h=>?_)<;>cbv
     · refine L_if hE h (fun h=>?_) (fun h=>?_)<;>cbv
       · cases h;(cbv;(try simp only [e_rnil hR]);repeat' (first | exact trivial | exact rfl | exact Or.inr trivial | apply And.intro))
       refine L_call hE hR h (fun _ e=>r13_times_w e) rfl rfl fun a6 h=>?_;cbv
       cases h;(cbv;(try simp only [e_rnil hR]);repeat' (first | exact trivial | exact rfl | exact Or.inr trivial | apply And.intro))
     cases h;(cbv;(try simp only [e_rnil hR]);repeat' (first | exact trivial | exact rfl | exact Or.inr trivial | apply And.intro))
   refine L_if hE h (fun h=>?_) (fun h=>?_)<;>cbv
   · refine L_if hE h (fun h=>?_) (fun h=>?_)<;>cbv
     · cases h;(cbv;(try simp only [e_rnil hR]);repeat' (first | exact trivial | exact rfl | exact Or.inr trivial | apply And.intro))
     refine L_if hE h (fun h=>?_) (fun h=>?_)<;>cbv
     · refine L_if hE h (fun h=>?_) (fun h=>?_)<;>cbv
       · cases h;(cbv;(try simp only [e_rnil hR]);repeat' (first | exact trivial | exact rfl | exact Or.inr trivial | apply And.intro))
       refine L_call hE hR h (fun _ e=>r13_times_w e) rfl rfl fun a7 h=>?_;cbv
       cases h;(cbv;(try simp only [e_rnil hR]);repeat' (first | exact trivial | exact rfl | exact Or.inr trivial | apply And.intro))
     cases h;(cbv;(try simp only [e_rnil hR]);repeat' (first | exact trivial | exact rfl | exact Or.inr trivial | apply And.intro))
   refine L_if hE h (fun h=>?_) (fun h=>?_)<;>cbv
   · refine L_if hE h (fun h=>?_) (fun h=>?_)<;>cbv
     · cases h;(cbv;(try simp only [e_rnil hR]);repeat' (first | exact trivial | exact rfl | exact Or.inr trivial | apply And.intro))
     refine L_call hE hR h (fun _ e=>r13_times_w e) rfl rfl fun a8 h=>?_;cbv
     cases h;(cbv;(try simp only [e_rnil hR]);repeat' (first | exact trivial | exact rfl | exact Or.inr trivial | apply And.intro))
   cases h;(cbv;(try simp only [e_rnil hR]);repeat' (first | exact trivial | exact rfl | exact Or.inr trivial | apply And.intro))
 refine L_if hE h (fun h=>?_) (fun h=>?_)<;>cbv
 · exact And.left (hQ _ _ _ rfl rfl (by cases h;subst hR;rfl))
 refine L_for hE lay_ok 2 (fun g:Int × Nat=>[(2,fB false),(5,fI .i64 g.1)]) (fun g=>[]) (fun g=>r13_Right_l1 (r13_Right_g N) p0 g.2 g.1=some r) (fun g=>g.2) (_,N) h ?_ ?_
 · (cbv;(try simp only [e_rnil hR]);repeat' (first | exact trivial | exact rfl | exact Or.inr trivial | apply And.intro))
 rintro ⟨v9,m1⟩ h Q1 hN1 hT1 hX1
 have h:r13_Right_l1 (r13_Right_g N) p0 m1 v9=some r:=h
 cases m1 with
 | zero=>exact nomatch (show (none:Option _)=some _ from h)
 | succ m1=>
 rw [r13_Right_l1] at h
 rw [q_ar hE,q_cm hE,q_ll hE,←hR] at h
 cbv
 refine L_if hE h (fun h=>?_) (fun h=>?_)<;>cbv
 · refine L_whole hE lay_ok (by kernel_rfl) (by kernel_rfl) ?_;cbv
   refine L_rowN hE hR h fun r10 h=>?_;cbv
   refine L_pcall hE hR h (fun _ e=>ih e) (by subst hR;rfl) rfl fun a11 h=>?_;cbv
   refine L_if hE h (fun h=>?_) (fun h=>?_)<;>cbv
   · refine L_if hE h (fun h=>?_) (fun h=>?_)<;>cbv
     · refine L_if hE h (fun h=>?_) (fun h=>?_)<;>cbv
       · refine L_if hE h (fun h=>?_) (fun h=>?_)<;>cbv
         · refine L_if hE h (fun h=>?_) (fun h=>?_)<;>cbv
           · refine L_if hE h (fun h=>?_) (fun h=>?_)<;>cbv
             · refine L_if hE h (fun h=>?_) (fun h=>?_)<;>cbv
               · refine L_if hE h (fun h=>?_) (fun h=>?_)<;>cbv
                 · refine L_if hE h (fun h=>?_) (fun h=>?_)<;>cbv
                   · refine L_if hE h (fun h=>?_) (fun h=>?_)<;>cbv
                     · refine L_if hE h (fun h=>?_) (fun h=>?_)<;>cbv
                       · refine L_if hE h (fun h=>?_) (fun h=>?_)<;>cbv
                         · refine L_t hE ?_;cbv
                           refine hT1 _ ?_
                           exact And.left (hQ _ _ _ rfl rfl (by cases h;subst hR;rfl))
                         exact nomatch h
                       exact nomatch h
                     exact nomatch h
                   exact nomatch h
                 exact nomatch h
               exact nomatch h
             exact nomatch h
           exact nomatch h
         exact nomatch h
       exact nomatch h
     exact nomatch h
   refine L_if hE h (fun h=>?_) (fun h=>?_)<;>cbv
   · exact nomatch h
   refine L_if hE h (fun h=>?_) (fun h=>?_)<;>cbv
   · exact nomatch h
   refine L_if hE h (fun h=>?_) (fun h=>?_)<;>cbv
   · exact nomatch h
   refine L_rowN hE hR h fun r12 h=>?_;cbv
   refine L_if hE h (fun h=>?_) (fun h=>?_)<;>cbv
   · exact nomatch h
   refine L_if hE h (fun h=>?_) (fun h=>?_)<;>cbv
   · exact nomatch h
   refine L_if hE h (fun h=>?_) (fun h=>?_)<;>cbv
   · exact nomatch h
   refine L_if hE h (fun h=>?_) (fun h=>?_)<;>cbv
   · exact nomatch h
   refine L_if hE h (fun h=>?_) (fun h=>?_)<;>cbv
   · exact nomatch h
   refine L_if hE h (fun h=>?_) (fun h=>?_)<;>cbv
   · exact nomatch h
   refine L_if hE h (fun h=>?_) (fun h=>?_)<;>cbv
   · refine L_if hE h (fun h=>?_) (fun h=>?_)<;>cbv
     · refine L_if hE h (fun h=>?_) (fun h=>?_)<;>cbv
       · refine L_if hE h (fun h=>?_) (fun h=>?_)<;>cbv
         · exact nomatch h
         refine L_if hE h (fun h=>?_) (fun h=>?_)<;>cbv
         · refine L_if hE h (fun h=>?_) (fun h=>?_)<;>cbv
           · exact nomatch h
           refine L_if hE h (fun h=>?_) (fun h=>?_)<;>cbv
           · refine hT1 _ ?_
             exact And.left (hQ _ _ _ rfl rfl (by cases h;subst hR;rfl))
           refine hN1 _ (_,m1) [] h (Nat.lt_succ_self _) trivial ?_;(cbv;(try simp only [e_rnil hR]);repeat' (first | exact trivial | exact rfl | exact Or.inr trivial | apply And.intro))
         exact nomatch h
       exact nomatch h
     exact nomatch h
   refine L_if hE h (fun h=>?_) (fun h=>?_)<;>cbv
   · exact nomatch h
   refine L_if hE h (fun h=>?_) (fun h=>?_)<;>cbv
   · exact nomatch h
   refine L_if hE h (fun h=>?_) (fun h=>?_)<;>cbv
   · exact nomatch h
   refine L_if hE h (fun h=>?_) (fun h=>?_)<;>cbv
   · exact nomatch h
   refine L_if hE h (fun h=>?_) (fun h=>?_)<;>cbv
   · exact nomatch h
   refine L_f hE ?_;cbv
   refine hN1 _ (_,m1) [] h (Nat.lt_succ_self _) trivial ?_;(cbv;(try simp only [e_rnil hR]);repeat' (first | exact trivial | exact rfl | exact Or.inr trivial | apply And.intro))
 refine hX1 _ _ ?_;cbv
 exact And.left (hQ _ _ _ rfl rfl (by cases h;subst hR;rfl))
theorem r16_count_w:∀{N:Nat} {p0:Node} {r:Int},r16_count_g N p0=some r→FunS Tryd.prog 33 [.agg [fI .i64 p0.kind,fI .u64 (p0.set.a.toNat:Int),fI .u64 (p0.set.b.toNat:Int),fI .u64 (p0.set.c.toNat:Int),fI .u64 (p0.set.d.toNat:Int),.t (.slc (rw _ nodeRow p0.kids)),fI .i64 p0.min,fI .i64 p0.max]] (r16_count_s rw) r:=by
 intro N
 induction N with
 | zero=>intros;rename_i h;exact nomatch (show (none:Option _)=some _ from h)
 | succ N ih=>
 intro p0 r h
 refine fun_w lay_ok Tryd.call33 Tryd.func33 rfl ?_
 intro A W E Q R hE hR hf hQ;rcases W with ⟨ar,cm,conj,cv,sl,sc,ct,sa,ss,ll,_,_,_,_,mi,mx,_,_,_,_,_⟩
 rw [←hR]
 rw [r16_count_g] at h
 rw [q_cm hE] at h
 cbv
 refine L_if hE h (fun h=>?_) (fun h=>?_)<;>cbv
 · exact And.left (hQ _ _ _ rfl rfl (by cases h;subst hR;rfl))
 refine L_for hE lay_ok 1 (fun g:Int × Int × Nat=>[(3,fI .i64 g.1),(4,fI .i64 g.2.1)]) (fun g=>[]) (fun g=>r16_count_l1 (r16_count_g N) p0 g.2.2 g.1 g.2.1=some r) (fun g=>g.2.2) (_,_,N) h ?_ ?_
 · (cbv;(try simp only [e_rnil hR]);repeat' (first | exact trivial | exact rfl | exact Or.inr trivial | apply And.intro))
 rintro ⟨v1,v2,m1⟩ h Q1 hN1 hT1 hX1
 have h:r16_count_l1 (r16_count_g N) p0 m1 v1 v2=some r:=h
 cases m1 with
 | zero=>exact nomatch (show (none:Option _)=some _ from h)
 | succ m1=>
 rw [r16_count_l1] at h
 rw [q_ar hE,q_cm hE,q_ll hE,←hR] at h
 cbv
 refine L_if hE h (fun h=>?_) (fun h=>?_)<;>cbv
 · refine L_rowN hE hR h fun r3 h=>?_;cbv
   refine L_call hE hR h (fun _ e=>ih e) (by subst hR;rfl) rfl fun a4 h=>?_;cbv
   refine hN1 _ (_,_,m1) [] h (Nat.lt_succ_self _) trivial ?_;(cbv;(try simp only [e_rnil hR]);repeat' (first | exact trivial | exact rfl | exact Or.inr trivial | apply And.intro))
 refine hX1 _ _ ?_;cbv
 refine L_rgJ hE lay_ok h 1 (fun j1:Bool=>[(30,fB j1)]) (fun j1=>[]) (fun j1 h=>?_) (fun j1 h=>?_)<;>cbv
 · refine L_if hE h (fun h=>?_) (fun h=>?_)<;>cbv
   · cases h;(cbv;(try simp only [e_rnil hR]);repeat' (first | exact trivial | exact rfl | exact Or.inr trivial | apply And.intro))
   cases h;(cbv;(try simp only [e_rnil hR]);repeat' (first | exact trivial | exact rfl | exact Or.inr trivial | apply And.intro))
 refine L_cdJ hE lay_ok h 1 (fun j3:Int=>[(3,fI .i64 j3)]) (fun j3=>[]) (fun j3 h=>?_) (fun j3 h=>?_)<;>cbv
 · refine L_if hE h (fun h=>?_) (fun h=>?_)<;>cbv
   · cases h;(cbv;(try simp only [e_rnil hR]);repeat' (first | exact trivial | exact rfl | exact Or.inr trivial | apply And.intro))
   refine L_cdJ hE lay_ok h 1 (fun j2:Int=>[(3,fI .i64 j2)]) (fun j2=>[]) (fun j2 h=>?_) (fun j2 h=>?_)<;>cbv
   · refine L_if hE h (fun h=>?_) (fun h=>?_)<;>cbv
     · cases h;(cbv;(try simp only [e_rnil hR]);repeat' (first | exact trivial | exact rfl | exact Or.inr trivial | apply And.intro))
     cases h;(cbv;(try simp only [e_rnil hR]);repeat' (first | exact trivial | exact rfl | exact Or.inr trivial | apply And.intro))
   cases h;(cbv;(try simp only [e_rnil hR]);repeat' (first | exact trivial | exact rfl | exact Or.inr trivial | apply And.intro))
 refine L_if hE h (fun h=>?_) (fun h=>?_)<;>cbv
 · exact And.left (hQ _ _ _ rfl rfl (by cases h;subst hR;rfl))
 exact And.left (hQ _ _ _ rfl rfl (by cases h;subst hR;rfl))
end Gn
end Go.Proofs.YtbpihhelojjedaaDoor
namespace Go.Proofs.YtbpihhelojjedaaDoor
open Go Go.RowKit
open Ab Sh
namespace Gn
theorem r16_Count_w {N:Nat} {p0:Node} {r:Int} (h:r16_Count_g N p0=some r):FunS Tryd.prog 13 [.agg [fI .i64 p0.kind,fI .u64 (p0.set.a.toNat:Int),fI .u64 (p0.set.b.toNat:Int),fI .u64 (p0.set.c.toNat:Int),fI .u64 (p0.set.d.toNat:Int),.t (.slc (rw _ nodeRow p0.kids)),fI .i64 p0.min,fI .i64 p0.max]] (r16_Count_s rw) r:=by
 refine fun_w lay_ok Tryd.call13 Tryd.func13 rfl ?_
 intro A W E Q R hE hR hf hQ;rcases W with ⟨ar,cm,conj,cv,sl,sc,ct,sa,ss,ll,_,_,_,_,mi,mx,_,_,_,_,_⟩
 rw [←hR]
 unfold r16_Count_g at h
 skip
 cbv
 refine L_call hE hR h (fun _ e=>r13_Right_w e) (by subst hR;rfl) rfl fun a1 h=>?_;cbv
 refine L_if hE h (fun h=>?_) (fun h=>?_)<;>cbv
 · exact And.left (hQ _ _ _ rfl rfl (by cases h;subst hR;rfl))
 refine L_call hE hR h (fun _ e=>r16_count_w e) (by subst hR;rfl) rfl fun a2 h=>?_;cbv
 exact And.left (hQ _ _ _ rfl rfl (by cases h;subst hR;rfl))
theorem r16_link_w {N:Nat} {p0:List (List Int)} {p1:List Int} {p2:List Int} {r:List (List Int)} (h:r16_link_g N p0 p1 p2=some r):FunS Tryd.prog 52 [.t (.slc (rw _ (cLs (cI .i64)) p0)),.t (.slc (rw _ (cI .i64) p1)),.t (.slc (rw _ (cI .i64) p2))] (r16_link_s rw) r:=by
 refine fun_w lay_ok Tryd.call52 Tryd.func52 rfl ?_
 intro A W E Q R hE hR hf hQ;rcases W with ⟨ar,cm,conj,cv,sl,sc,ct,sa,ss,ll,_,_,_,_,mi,mx,_,_,_,_,_⟩
 rw [←hR]
 unfold r16_link_g at h
 skip
 cbv
 refine L_for hE lay_ok 0 (fun g:Int ×(List (List Int))× Nat=>[(7,.lst 0),(8,fI .i64 g.1)]) (fun g=>[(0,.list 23 1 (R _ (cLs (cI .i64)) g.2.1))]) (fun g=>r16_link_l1 N p0 p1 p2 g.2.2 g.1 g.2.1=some r) (fun g=>g.2.2) (_,_,N) h ?_ ?_
 · (cbv;(try simp only [e_rnil hR]);repeat' (first | exact trivial | exact rfl | exact Or.inr trivial | apply And.intro))
 rintro ⟨v1,v2,m1⟩ h Q1 hN1 hT1 hX1
 have h:r16_link_l1 N p0 p1 p2 m1 v1 v2=some r:=h
 cases m1 with
 | zero=>exact nomatch (show (none:Option _)=some _ from h)
 | succ m1=>
 rw [r16_link_l1] at h
 rw [q_ar hE,q_cm hE,q_ll hE,←hR] at h
 cbv
 refine L_if hE h (fun h=>?_) (fun h=>?_)<;>cbv
 · refine L_call hE hR h (fun _ e=>r16_in_w e) (by subst hR;rfl) rfl fun a3 h=>?_;cbv
   refine L_cdJ hE lay_ok h 1 (fun j1:(List (List Int))=>[(7,.lst 0)]) (fun j1=>[(0,.list 23 1 (R _ (cLs (cI .i64)) j1))]) (fun j1 h=>?_) (fun j1 h=>?_)<;>cbv
   · refine L_if hE h (fun h=>?_) (fun h=>?_)<;>cbv
     · refine L_rowL hE hR h fun r4 h=>?_;cbv
       refine L_call hE hR h (fun _ e=>r16_Join_w e) (by subst hR;rfl) rfl fun a5 h=>?_;cbv
       refine L_appL hE hR h (by subst hR;rfl) (hf _) (fun _=>rfl) (by decide) fun l6 e h=>?_;cbv at e;rw [e];clear e
       cases h;(cbv;(try simp only [e_rnil hR]);repeat' (first | exact trivial | exact rfl | exact Or.inr trivial | apply And.intro))
     refine L_rowL hE hR h fun r7 h=>?_;cbv
     refine L_appL hE hR h (by subst hR;rfl) (hf _) (fun _=>rfl) (by decide) fun l8 e h=>?_;cbv at e;rw [e];clear e
     cases h;(cbv;(try simp only [e_rnil hR]);repeat' (first | exact trivial | exact rfl | exact Or.inr trivial | apply And.intro))
   refine hN1 _ (_,_,m1) [] h (Nat.lt_succ_self _) trivial ?_;(cbv;(try simp only [e_rnil hR]);repeat' (first | exact trivial | exact rfl | exact Or.inr trivial | apply And.intro))
 refine hX1 _ _ ?_;cbv
 exact And.left (hQ _ _ _ rfl rfl (by cases h;subst hR;rfl))
theorem r16_behind_w {N:Nat} {p0:Gr16_W} {p1:Gr16_W} {r:Gr16_W} (h:r16_behind_g N p0 p1=some r):FunS Tryd.prog 50 [.agg [.t (.slc (rw _ cSet p0.Sets)),.t (.slc (rw _ (cLs (cI .i64)) p0.Next)),.t (.slc (rw _ (cI .i64) p0.First)),.t (.slc (rw _ (cI .i64) p0.Last)),fB p0.None],.agg [.t (.slc (rw _ cSet p1.Sets)),.t (.slc (rw _ (cLs (cI .i64)) p1.Next)),.t (.slc (rw _ (cI .i64) p1.First)),.t (.slc (rw _ (cI .i64) p1.Last)),fB p1.None]] (r16_behind_s rw) r:=by
 refine fun_w lay_ok Tryd.call50 Tryd.func50 rfl ?_
 intro A W E Q R hE hR hf hQ;rcases W with ⟨ar,cm,conj,cv,sl,sc,ct,sa,ss,ll,_,_,_,_,mi,mx,_,_,_,_,_⟩
 rw [←hR]
 unfold r16_behind_g at h
 rw [q_ll hE,←hR] at h
 cbv
 refine L_tail hE lay_ok (by kernel_rfl) 21 (by kernel_rfl) ?_;cbv
 refine L_pcall hE hR h (fun _ e=>r16_link_w e) (by subst hR;rfl) rfl fun a1 h=>?_;cbv
 refine L_if hE h (fun h=>?_) (fun h=>?_)<;>cbv
 · refine L_if hE h (fun h=>?_) (fun h=>?_)<;>cbv
   · refine L_if hE h (fun h=>?_) (fun h=>?_)<;>cbv
     · refine L_cd hE lay_ok ?_;cbv
       refine L_if hE h (fun h=>?_) (fun h=>?_)<;>cbv
       · refine L_call hE hR h (fun _ e=>r16_Join_w e) (by subst hR;rfl) rfl fun a2 h=>?_;cbv
         refine L_cdJ hE lay_ok h 25 (fun j1:(List Int)=>[]) (fun j1=>[(23,.box 65 [.t (.slc (R _ cSet p1.Sets)),.t (.slc (R _ (cLs (cI .i64)) a1)),.t (.slc (R _ (cI .i64) a2)),.t (.slc (R _ (cI .i64) j1)),fB p1.None])]) (fun j1 h=>?_) (fun j1 h=>?_)<;>cbv
         · refine L_if hE h (fun h=>?_) (fun h=>?_)<;>cbv
           · refine L_call hE hR h (fun _ e=>r16_Join_w e) (by subst hR;rfl) rfl fun a3 h=>?_;cbv
             cases h;(cbv;(try simp only [e_rnil hR]);repeat' (first | exact trivial | exact rfl | exact Or.inr trivial | apply And.intro))
           cases h;(cbv;(try simp only [e_rnil hR]);repeat' (first | exact trivial | exact rfl | exact Or.inr trivial | apply And.intro))
         exact And.left (hQ _ _ _ rfl rfl (by cases h;subst hR;rfl))
       exact nomatch h
     exact nomatch h
   exact nomatch h
 refine L_if hE h (fun h=>?_) (fun h=>?_)<;>cbv
 · exact nomatch h
 refine L_if hE h (fun h=>?_) (fun h=>?_)<;>cbv
 · exact nomatch h
 refine L_cd hE lay_ok ?_;cbv
 refine L_if hE h (fun h=>?_) (fun h=>?_)<;>cbv
 · exact nomatch h
 refine L_cdJ hE lay_ok h 25 (fun j2:(List Int)=>[]) (fun j2=>[(23,.box 65 [.t (.slc (R _ cSet p1.Sets)),.t (.slc (R _ (cLs (cI .i64)) a1)),.t (.slc (R _ (cI .i64) p0.First)),.t (.slc (R _ (cI .i64) j2)),fB false])]) (fun j2 h=>?_) (fun j2 h=>?_)<;>cbv
 · refine L_if hE h (fun h=>?_) (fun h=>?_)<;>cbv
   · refine L_call hE hR h (fun _ e=>r16_Join_w e) (by subst hR;rfl) rfl fun a4 h=>?_;cbv
     cases h;(cbv;(try simp only [e_rnil hR]);repeat' (first | exact trivial | exact rfl | exact Or.inr trivial | apply And.intro))
   cases h;(cbv;(try simp only [e_rnil hR]);repeat' (first | exact trivial | exact rfl | exact Or.inr trivial | apply And.intro))
 exact And.left (hQ _ _ _ rfl rfl (by cases h;subst hR;rfl))
end Gn
end Go.Proofs.YtbpihhelojjedaaDoor
