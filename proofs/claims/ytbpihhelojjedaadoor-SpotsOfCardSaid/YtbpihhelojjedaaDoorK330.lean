/- Texts that the proof leans on. -/
import Derived.Test.YtbpihhelojjedaaDoorK329
set_option linter.unusedVariables false
set_option linter.unusedSimpArgs false
set_option maxRecDepth 100000
set_option maxHeartbeats 4000000
namespace Go.Proofs.YtbpihhelojjedaaDoor
open Go Go.RowKit
open Ab Sh
namespace Gn
theorem spots_merge_w {N:Nat} {p0:List Int} {p1:List Int} {r:List Int} (h:spots_merge_g N p0 p1=some r):FunS Tryd.prog 47 [.t (.slc (rw _ (cI .i64) p0)),.t (.slc (rw _ (cI .i64) p1))] (spots_merge_s rw) r:=by
 refine fun_w lay_ok Tryd.call47 Tryd.func47 rfl ?_
 intro A W E Q R hE hR hf hQ;rcases W with ⟨ar,cm,conj,cv,sl,sc,ct,sa,ss,ll,_,_,_,_,mi,mx,_,_,_⟩
 rw [←hR]
 unfold spots_merge_g at h
 rw [q_cm hE,q_ll hE,←hR] at h
 cbv
 refine L_listB hE hR h (fun _ e=>slices_ConcatI_w e) rfl (by subst hR;rfl) flat_I fun l1 h=>?_;cbv
 refine sortI_L hE hR h rfl fun l2 h=>?_;cbv
 refine L_body hE lay_ok Tryd.call61 Tryd.func61 rfl ?_
 intro A1 E1 Q1 hE1 hf1 hQ1;cbv
 refine L_if hE1 h (fun h=>?_) (fun h=>?_)<;>cbv
 · refine And.left (hQ1 _ _ rfl ?_);cbv
   exact And.left (hQ _ _ _ rfl rfl (by cases h;subst hR;rfl))
 refine L_for hE1 lay_ok 2 (fun g:Int × Nat=>[(0,.lst 1),(2,vNil),(3,fI .i64 g.1),(6,.lst 1)]) (fun g=>[]) (fun g=>spots_merge_l2 N l2 g.2 g.1=some r) (fun g=>g.2) (_,N) h ?_ ?_
 · (cbv;(try simp only [e_rnil hR]);repeat' (first | exact trivial | exact rfl | exact Or.inr trivial | apply And.intro))
 rintro ⟨v3,m2⟩ h Q2 hN2 hT2 hX2
 have h:spots_merge_l2 N l2 m2 v3=some r:=h
 cases m2 with
 | zero=>exact nomatch (show (none:Option _)=some _ from h)
 | succ m2=>
 rw [spots_merge_l2] at h
 rw [q_ar hE,q_cm hE,q_ll hE,←hR] at h
 cbv
 refine L_if hE1 h (fun h=>?_) (fun h=>?_)<;>cbv
 · refine L_whole hE1 lay_ok (by kernel_rfl) (by kernel_rfl) ?_;cbv
   refine L_row hE1 hR h fun r4 h=>?_;cbv
   refine L_row hE1 hR h fun r5 h=>?_;cbv
   refine L_row hE1 hR h fun r6 h=>?_;cbv
   refine L_row hE1 hR h fun r7 h=>?_;cbv
   refine L_if hE1 h (fun h=>?_) (fun h=>?_)<;>cbv
   · refine L_wsin hE1 hR h (fun _=>rfl) fun h=>?_;cbv
     refine L_for hE1 lay_ok 12 (fun g:Int × Int ×(List Int)× Nat=>[(0,.lst 1),(3,fI .i64 g.1),(4,.win 1 v3),(5,fI .i64 g.2.1),(6,.lst 1),(11,.lst 1),(16,.lst 1),(18,.elt 1 v3 0),(20,.lst 1),(23,.elt 1 (ar .sub .i64 v3 1) 0),(26,.lst 1),(28,.win 1 v3)]) (fun g=>[(1,.list 3 1 (R _ (cI .i64) g.2.2.1))]) (fun g=>spots_merge_l3 v3 g.2.2.2 g.1 g.2.1 g.2.2.1=some r) (fun g=>g.2.2.2) (_,_,_,N) h ?_ ?_
     · (cbv;(try simp only [e_rnil hR]);repeat' (first | exact trivial | exact rfl | exact Or.inr trivial | apply And.intro))
     rintro ⟨v8,v9,v10,m3⟩ h Q3 hN3 hT3 hX3
     have h:spots_merge_l3 v3 m3 v8 v9 v10=some r:=h
     cases m3 with
     | zero=>exact nomatch (show (none:Option _)=some _ from h)
     | succ m3=>
     rw [spots_merge_l3] at h
     rw [q_ar hE,q_cm hE,q_ll hE,←hR] at h
     cbv
     refine L_wsin hE1 hR h (fun _=>rfl) fun h=>?_;cbv
     refine L_if hE1 h (fun h=>?_) (fun h=>?_)<;>cbv
     · refine L_whole hE1 lay_ok (by kernel_rfl) (by kernel_rfl) ?_;cbv
       refine L_wrow hE1 hR h fun h=>?_;cbv
       refine L_row hE1 hR h fun r11 h=>?_;cbv
       refine L_wrow hE1 hR h fun h=>?_;cbv
       refine L_row hE1 hR h fun r12 h=>?_;cbv
       refine L_cdJ hE1 lay_ok h 22 (fun j2:Int ×(List Int)=>[(3,fI .i64 j2.1)]) (fun j2=>[(1,.list 3 1 (R _ (cI .i64) j2.2))]) (fun j2 h=>?_) (fun j2 h=>?_)<;>cbv
       · refine L_if hE1 h (fun h=>?_) (fun h=>?_)<;>cbv
         · refine L_wrow hE1 hR h fun h=>?_;cbv
           refine L_row hE1 hR h fun r13 h=>?_;cbv
           refine L_row hE1 hR h fun r14 h=>?_;cbv
           refine L_row hE1 hR h fun r15 h=>?_;cbv
           refine L_put hE1 hR h fun l16 e h=>?_;cbv at e;rw [e];clear e
           cases h;(cbv;(try simp only [e_rnil hR]);repeat' (first | exact trivial | exact rfl | exact Or.inr trivial | apply And.intro))
         cases h;(cbv;(try simp only [e_rnil hR]);repeat' (first | exact trivial | exact rfl | exact Or.inr trivial | apply And.intro))
       refine hN3 _ (_,_,_,m3) [] h (Nat.lt_succ_self _) trivial ?_;(cbv;(try simp only [e_rnil hR]);repeat' (first | exact trivial | exact rfl | exact Or.inr trivial | apply And.intro))
     refine hX3 _ _ ?_;cbv
     refine L_wsin hE1 hR h (fun _=>rfl) fun h=>?_;cbv
     refine L_clr hE1 hR h (fun _=>rfl) fun l17 e h=>?_;cbv at e;rw [e];clear e
     refine L_cut hE1 hR h (hf1 _ (.inr ⟨hf _,_,_,_,rfl⟩)) (fun _=>rfl) fun l18 e h=>?_;cbv at e;rw [e];clear e
     refine hT2 _ ?_
     refine And.left (hQ1 _ _ rfl ?_);cbv
     exact And.left (hQ _ _ _ rfl rfl (by cases h;subst hR;rfl))
   refine hN2 _ (_,m2) [] h (Nat.lt_succ_self _) trivial ?_;(cbv;(try simp only [e_rnil hR]);repeat' (first | exact trivial | exact rfl | exact Or.inr trivial | apply And.intro))
 refine hX2 _ _ ?_;cbv
 refine And.left (hQ1 _ _ rfl ?_);cbv
 exact And.left (hQ _ _ _ rfl rfl (by cases h;subst hR;rfl))
theorem spots_writer_next_w {N:Nat} {p1:List Int} {p2:List Int} {s0:Gspots_writer} {r:Gspots_writer} (h:spots_writer_next_g N p1 p2 s0=some r):HFun Tryd.prog 62 [.ptr 0 0,.t (.slc (rw _ (cI .i64) p1)),.t (.slc (rw _ (cI .i64) p2))] [.box 59 [.lst 1,fB s0.out.None,.t (.slc (rw _ (cI .i64) s0.out.First)),.t (.slc (rw _ (cI .i64) s0.out.Last)),.lst 2],.list 32 4 (rw _ cSet s0.out.Sets),.list 23 1 (rw _ (cLs (cI .i64)) s0.out.Next)] (spots_writer_next_s rw r) (spots_writer_next_t rw r):=by
 refine hfun_w lay_ok Tryd.call62 Tryd.func62 rfl [true,false,false] rfl ?_
 intro A W E Q R hE hR hf hQ;rcases W with ⟨ar,cm,conj,cv,sl,sc,ct,sa,ss,ll,_,_,_,_,mi,mx,_,_,_⟩
 rw [←hR]
 unfold spots_writer_next_g at h
 skip
 cbv
 refine L_for hE lay_ok 3 (fun g:Int ×(List (List Int))× Nat=>[(10,fI .i64 g.1)]) (fun g=>[(2,.list 23 1 (R _ (cLs (cI .i64)) g.2.1))]) (fun g=>spots_writer_next_l1 N p1 p2 s0 g.2.2 g.1 g.2.1=some r) (fun g=>g.2.2) (_,_,N) h ?_ ?_
 · (cbv;(try simp only [e_rnil hR]);repeat' (first | exact trivial | exact rfl | exact Or.inr trivial | apply And.intro))
 rintro ⟨v1,v2,m1⟩ h Q1 hN1 hT1 hX1
 have h:spots_writer_next_l1 N p1 p2 s0 m1 v1 v2=some r:=h
 cases m1 with
 | zero=>exact nomatch (show (none:Option _)=some _ from h)
 | succ m1=>
 rw [spots_writer_next_l1] at h
 rw [q_ar hE,q_cm hE,q_ll hE,←hR] at h
 cbv
 refine L_if hE h (fun h=>?_) (fun h=>?_)<;>cbv
 · refine L_row hE hR h fun r3 h=>?_;cbv
   refine L_tail hE lay_ok (by kernel_rfl) 17 (by kernel_rfl) ?_;cbv
   refine L_rowL hE hR h fun r4 h=>?_;cbv
   refine L_rowL hE hR h fun r5 h=>?_;cbv
   refine L_pcall hE hR h (fun _ e=>spots_merge_w e) (by subst hR;rfl) rfl fun a6 h=>?_;cbv
   refine L_rowL hE hR h fun r7 h=>?_;cbv
   refine L_rowL hE hR h fun r8 h=>?_;cbv
   refine L_putL hE hR h fun l9 e h=>?_;cbv at e;rw [e];clear e
   refine hN1 _ (_,_,m1) [] h (Nat.lt_succ_self _) trivial ?_;(cbv;(try simp only [e_rnil hR]);repeat' (first | exact trivial | exact rfl | exact Or.inr trivial | apply And.intro))
 refine hX1 _ _ ?_;cbv
 exact And.right (hQ _ _ _ _ rfl rfl rfl (by cases h;subst hR;rfl) (by cases h;subst hR;rfl))
theorem spots_writer_behind_w {N:Nat} {p1:Gspots_part} {p2:Gspots_part} {s0:Gspots_writer} {r:Gspots_part × Gspots_writer} (h:spots_writer_behind_g N p1 p2 s0=some r):HFun Tryd.prog 49 [.ptr 0 0,.agg [.t (.slc (rw _ (cI .i64) p1.first)),.t (.slc (rw _ (cI .i64) p1.last)),fB p1.none],.agg [.t (.slc (rw _ (cI .i64) p2.first)),.t (.slc (rw _ (cI .i64) p2.last)),fB p2.none]] [.box 59 [.lst 1,fB s0.out.None,.t (.slc (rw _ (cI .i64) s0.out.First)),.t (.slc (rw _ (cI .i64) s0.out.Last)),.lst 2],.list 32 4 (rw _ cSet s0.out.Sets),.list 23 1 (rw _ (cLs (cI .i64)) s0.out.Next)] (spots_writer_behind_s rw r) (spots_writer_behind_t rw r):=by
 refine hfun_w lay_ok Tryd.call49 Tryd.func49 rfl [true,false,false] rfl ?_
 intro A W E Q R hE hR hf hQ;rcases W with ⟨ar,cm,conj,cv,sl,sc,ct,sa,ss,ll,_,_,_,_,mi,mx,_,_,_⟩
 rw [←hR]
 unfold spots_writer_behind_g at h
 skip
 cbv
 refine L_hcall hE hR [0,1,2] [true,false,false] h (fun _ e=>spots_writer_next_w e) rfl rfl rfl rfl (by subst hR;rfl) (by subst hR;rfl) ⟨(hf _ rfl),(hf _ rfl),trivial⟩ fun a1 h=>?_;cbv
 refine L_rg hE lay_ok ?_;cbv
 refine L_if hE h (fun h=>?_) (fun h=>?_)<;>cbv
 · refine L_cd hE lay_ok ?_;cbv
   refine L_if hE h (fun h=>?_) (fun h=>?_)<;>cbv
   · refine L_call hE hR h (fun _ e=>spots_merge_w e) (by subst hR;rfl) rfl fun a2 h=>?_;cbv
     refine L_cdJ hE lay_ok h 7 (fun j1:(List Int)=>[]) (fun j1=>[(6,.box 61 [.t (.slc (R _ (cI .i64) a2)),.t (.slc (R _ (cI .i64) j1)),fB p2.none])]) (fun j1 h=>?_) (fun j1 h=>?_)<;>cbv
     · refine L_if hE h (fun h=>?_) (fun h=>?_)<;>cbv
       · refine L_call hE hR h (fun _ e=>spots_merge_w e) (by subst hR;rfl) rfl fun a3 h=>?_;cbv
         cases h;(cbv;(try simp only [e_rnil hR]);repeat' (first | exact trivial | exact rfl | exact Or.inr trivial | apply And.intro))
       cases h;(cbv;(try simp only [e_rnil hR]);repeat' (first | exact trivial | exact rfl | exact Or.inr trivial | apply And.intro))
     exact And.left (hQ _ _ _ _ rfl rfl rfl (by cases h;subst hR;rfl) (by cases h;subst hR;rfl))
   exact nomatch h
 refine L_cd hE lay_ok ?_;cbv
 refine L_if hE h (fun h=>?_) (fun h=>?_)<;>cbv
 · exact nomatch h
 refine L_cdJ hE lay_ok h 7 (fun j2:(List Int)=>[]) (fun j2=>[(6,.box 61 [.t (.slc (R _ (cI .i64) p1.first)),.t (.slc (R _ (cI .i64) j2)),fB false])]) (fun j2 h=>?_) (fun j2 h=>?_)<;>cbv
 · refine L_if hE h (fun h=>?_) (fun h=>?_)<;>cbv
   · refine L_call hE hR h (fun _ e=>spots_merge_w e) (by subst hR;rfl) rfl fun a4 h=>?_;cbv
     cases h;(cbv;(try simp only [e_rnil hR]);repeat' (first | exact trivial | exact rfl | exact Or.inr trivial | apply And.intro))
   cases h;(cbv;(try simp only [e_rnil hR]);repeat' (first | exact trivial | exact rfl | exact Or.inr trivial | apply And.intro))
 exact And.left (hQ _ _ _ _ rfl rfl rfl (by cases h;subst hR;rfl) (by cases h;subst hR;rfl))
end Gn
end Go.Proofs.YtbpihhelojjedaaDoor
namespace Go.Proofs.YtbpihhelojjedaaDoor
open Go Go.RowKit
open Ab Sh
namespace Gn
theorem grp_spots_writer_write:∀N:Nat,(∀{p0:Int} {s0:Gspots_writer} {s2:Node} {r:Gspots_part × Gspots_writer},spots_writer_often_1_g N p0 s0 s2=some r→HFun Tryd.prog 63 [fI .i64 p0,.ptr 3 0,.ptr 4 0,.ptr 5 0] [.box 59 [.lst 1,fB s0.out.None,.t (.slc (rw _ (cI .i64) s0.out.First)),.t (.slc (rw _ (cI .i64) s0.out.Last)),.lst 2],.list 32 4 (rw _ cSet s0.out.Sets),.list 23 1 (rw _ (cLs (cI .i64)) s0.out.Next),.box 78 [.ptr 0 0],.box 35 [fI .i64 s2.kind,fI .u64 (s2.set.a.toNat:Int),fI .u64 (s2.set.b.toNat:Int),fI .u64 (s2.set.c.toNat:Int),fI .u64 (s2.set.d.toNat:Int),.t (.slc (rw _ nodeRow s2.kids)),fI .i64 s2.min,fI .i64 s2.max],.box 93 [.fn 63 [.ptr 3 0,.ptr 4 0,.ptr 5 0]]] (spots_writer_often_1_s rw r) (spots_writer_often_1_t s2 rw r))∧
 (∀{p1:Node} {s0:Gspots_writer} {r:Gspots_part × Gspots_writer},spots_writer_often_g N p1 s0=some r→HFun Tryd.prog 48 [.ptr 0 0,.agg [fI .i64 p1.kind,fI .u64 (p1.set.a.toNat:Int),fI .u64 (p1.set.b.toNat:Int),fI .u64 (p1.set.c.toNat:Int),fI .u64 (p1.set.d.toNat:Int),.t (.slc (rw _ nodeRow p1.kids)),fI .i64 p1.min,fI .i64 p1.max]] [.box 59 [.lst 1,fB s0.out.None,.t (.slc (rw _ (cI .i64) s0.out.First)),.t (.slc (rw _ (cI .i64) s0.out.Last)),.lst 2],.list 32 4 (rw _ cSet s0.out.Sets),.list 23 1 (rw _ (cLs (cI .i64)) s0.out.Next)] (spots_writer_often_s rw r) (spots_writer_often_t rw r))∧
 (∀{p1:Node} {s0:Gspots_writer} {r:Gspots_part × Gspots_writer},spots_writer_write_g N p1 s0=some r→HFun Tryd.prog 34 [.ptr 0 0,.agg [fI .i64 p1.kind,fI .u64 (p1.set.a.toNat:Int),fI .u64 (p1.set.b.toNat:Int),fI .u64 (p1.set.c.toNat:Int),fI .u64 (p1.set.d.toNat:Int),.t (.slc (rw _ nodeRow p1.kids)),fI .i64 p1.min,fI .i64 p1.max]] [.box 59 [.lst 1,fB s0.out.None,.t (.slc (rw _ (cI .i64) s0.out.First)),.t (.slc (rw _ (cI .i64) s0.out.Last)),.lst 2],.list 32 4 (rw _ cSet s0.out.Sets),.list 23 1 (rw _ (cLs (cI .i64)) s0.out.Next)] (spots_writer_write_s rw r) (spots_writer_write_t rw r)):=by
 intro N
 induction N with
 | zero=>exact ⟨(fun h=>nomatch (show (none:Option _)=some _ from h)),(fun h=>nomatch (show (none:Option _)=some _ from h)),(fun h=>nomatch (show (none:Option _)=some _ from h))⟩
 | succ N ih=>
 refine ⟨?_,?_,?_⟩
 · intro p0 s0 s2 r h
   refine hfun_w lay_ok Tryd.call63 Tryd.func63 rfl [true,false,false,true,true,true] rfl ?_
   intro A W E Q R hE hR hf hQ;rcases W with ⟨ar,cm,conj,cv,sl,sc,ct,sa,ss,ll,_,_,_,_,mi,mx,_,_,_⟩
   rw [←hR]
   rw [spots_writer_often_1_g] at h
   rw [q_ar hE,q_cm hE] at h
   cbv
   refine L_if hE h (fun h=>?_) (fun h=>?_)<;>cbv
   · exact And.left (hQ _ _ _ _ rfl rfl rfl (by cases h;subst hR;rfl) (by cases h;subst hR;rfl))
   refine L_hcall hE hR [0,1,2] [true,false,false] h (fun _ e=>(ih.2.2) e) rfl rfl rfl rfl (by subst hR;rfl) (by subst hR;rfl) ⟨(hf _ rfl),(hf _ rfl),trivial⟩ fun a1 h=>?_;cbv
   refine L_fxH hE hR lay_ok (by kernel_rfl) 6 5 [0,1] [none,none,none,some (.box 78 [.ptr 0 0]),none,none,none,some (.box 61 [.t (.slc (R _ (cI .i64) a1.1.first)),.t (.slc (R _ (cI .i64) a1.1.last)),fB a1.1.none])] [0,1,2,3,4,5] [true,false,false,true,true,true] [fI .i64 (ar .sub .i64 p0 1),.ptr 3 0,.ptr 4 0,.ptr 5 0] [.box 59 [.lst 1,fB a1.2.out.None,.t (.slc (R _ (cI .i64) a1.2.out.First)),.t (.slc (R _ (cI .i64) a1.2.out.Last)),.lst 2],.list 32 4 (R _ cSet a1.2.out.Sets),.list 23 1 (R _ (cLs (cI .i64)) a1.2.out.Next),.box 78 [.ptr 0 0],.box 35 [fI .i64 s2.kind,fI .u64 (s2.set.a.toNat:Int),fI .u64 (s2.set.b.toNat:Int),fI .u64 (s2.set.c.toNat:Int),fI .u64 (s2.set.d.toNat:Int),.t (.slc (R _ nodeRow s2.kids)),fI .i64 s2.min,fI .i64 s2.max],.box 93 [.fn 63 [.ptr 3 0,.ptr 4 0,.ptr 5 0]]] h (fun _ e=>(ih.1) e) (by subst hR;rfl) (by subst hR;rfl) rfl rfl rfl ⟨(hf _ rfl),(hf _ rfl),trivial⟩ rfl rfl rfl (by kernel_rfl) (fun _=>by kernel_rfl) (fun _=>by kernel_rfl) (by cbv;repeat' (first | exact rfl | trivial | apply And.intro)) (by cbv;repeat' (first | exact rfl | trivial | apply And.intro)) fun a2 h KK hKK=>?_;cbv
   (repeat' apply And.intro);(try (any_goals (first | exact rfl | trivial)));refine hKK _ ?_;cbv
   refine L_hcall hE hR [0,1,2] [true,false,false] h (fun _ e=>spots_writer_behind_w e) rfl rfl rfl rfl (by subst hR;rfl) (by subst hR;rfl) ⟨(hf _ rfl),(hf _ rfl),trivial⟩ fun a3 h=>?_;cbv
   exact And.left (hQ _ _ _ _ rfl rfl rfl (by cases h;subst hR;rfl) (by cases h;subst hR;rfl))
 · intro p1 s0 r h
   refine hfun_w lay_ok Tryd.call48 Tryd.func48 rfl [true,false,false] rfl ?_
   intro A W E Q R hE hR hf hQ;rcases W with ⟨ar,cm,conj,cv,sl,sc,ct,sa,ss,ll,_,_,_,_,mi,mx,_,_,_⟩
   rw [←hR]
   rw [spots_writer_often_g] at h
   rw [q_cm hE] at h
   cbv
   refine L_rowN hE hR h fun r1 h=>?_;cbv
   refine L_call hE hR h (fun _ e=>spots_count_w e) (by subst hR;rfl) rfl fun a2 h=>?_;cbv
   refine L_if hE h (fun h=>?_) (fun h=>?_)<;>cbv
   · exact And.left (hQ _ _ _ _ rfl rfl rfl (by cases h;subst hR;rfl) (by cases h;subst hR;rfl))
   refine L_denilB hE 7 0 rfl rfl ?_;cbv
   refine L_denilB hE 7 1 rfl rfl ?_;cbv
   refine L_for hE lay_ok 8 (fun g:Int × Bool ×(List Int)×(List Int)×(List CSet)×(List (List Int))×(List Int)×(List Int)× Bool × Nat=>[(20,fI .i64 g.1)]) (fun g=>[(0,.box 59 [.lst 1,fB g.2.1,.t (.slc (R _ (cI .i64) g.2.2.1)),.t (.slc (R _ (cI .i64) g.2.2.2.1)),.lst 2]),(1,.list 32 4 (R _ cSet g.2.2.2.2.1)),(2,.list 23 1 (R _ (cLs (cI .i64)) g.2.2.2.2.2.1)),(7,.box 61 [.t (.slc (R _ (cI .i64) g.2.2.2.2.2.2.1)),.t (.slc (R _ (cI .i64) g.2.2.2.2.2.2.2.1)),fB g.2.2.2.2.2.2.2.2.1])]) (fun g=>spots_writer_often_l1 (spots_writer_write_g N) (spots_writer_often_1_g N) N p1 r1 g.2.2.2.2.2.2.2.2.2 g.1 g.2.1 g.2.2.1 g.2.2.2.1 g.2.2.2.2.1 g.2.2.2.2.2.1 g.2.2.2.2.2.2.1 g.2.2.2.2.2.2.2.1 g.2.2.2.2.2.2.2.2.1=some r) (fun g=>g.2.2.2.2.2.2.2.2.2) (_,_,_,_,_,_,_,_,_,N) h ?_ ?_
   · (cbv;(try simp only [e_rnil hR]);repeat' (first | exact trivial | exact rfl | exact Or.inr trivial | apply And.intro))
   rintro ⟨v3,v4,v5,v6,v7,v8,v9,v10,v11,m1⟩ h Q1 hN1 hT1 hX1
   have h:spots_writer_often_l1 (spots_writer_write_g N) (spots_writer_often_1_g N) N p1 r1 m1 v3 v4 v5 v6 v7 v8 v9 v10 v11=some r:=h
   cases m1 with
   | zero=>exact nomatch (show (none:Option _)=some _ from h)
   | succ m1=>
   rw [spots_writer_often_l1] at h
   rw [q_ar hE,q_cm hE] at h
   cbv
   refine L_if hE h (fun h=>?_) (fun h=>?_)<;>cbv
   · refine L_fxH hE hR lay_ok (by kernel_rfl) 5 4 [0,1] [none,none,none,some (.box 78 [.ptr 0 0]),none,none,none,some (.box 61 [.t (.slc (R _ (cI .i64) v9)),.t (.slc (R _ (cI .i64) v10)),fB v11])] [0,1,2] [true,false,false] [.ptr 0 0,.agg [fI .i64 r1.kind,fI .u64 (r1.set.a.toNat:Int),fI .u64 (r1.set.b.toNat:Int),fI .u64 (r1.set.c.toNat:Int),fI .u64 (r1.set.d.toNat:Int),.t (.slc (R _ nodeRow r1.kids)),fI .i64 r1.min,fI .i64 r1.max]] [.box 59 [.lst 1,fB (((⟨(⟨v7,v4,v5,v6,v8⟩:GSpots)⟩:Gspots_writer).out).None),.t (.slc (R _ (cI .i64) (((⟨(⟨v7,v4,v5,v6,v8⟩:GSpots)⟩:Gspots_writer).out).First))),.t (.slc (R _ (cI .i64) (((⟨(⟨v7,v4,v5,v6,v8⟩:GSpots)⟩:Gspots_writer).out).Last))),.lst 2],.list 32 4 (R _ cSet (((⟨(⟨v7,v4,v5,v6,v8⟩:GSpots)⟩:Gspots_writer).out).Sets)),.list 23 1 (R _ (cLs (cI .i64)) (((⟨(⟨v7,v4,v5,v6,v8⟩:GSpots)⟩:Gspots_writer).out).Next))] h (fun _ e=>(ih.2.2) e) (by subst hR;rfl) (by subst hR;rfl) rfl rfl rfl ⟨(hf _ rfl),(hf _ rfl),trivial⟩ rfl rfl rfl (by kernel_rfl) (fun _=>by kernel_rfl) (fun _=>by kernel_rfl) (by cbv;repeat' (first | exact rfl | trivial | apply And.intro)) (by cbv;repeat' (first | exact rfl | trivial | apply And.intro)) fun a12 h KK hKK=>?_;cbv
     (repeat' apply And.intro);(try (any_goals (first | exact rfl | trivial)));refine hKK _ ?_;cbv
     refine L_hcall hE hR [0,1,2] [true,false,false] h (fun _ e=>spots_writer_behind_w e) rfl rfl rfl rfl (by subst hR;rfl) (by subst hR;rfl) ⟨(hf _ rfl),(hf _ rfl),trivial⟩ fun a13 h=>?_;cbv
     refine hN1 _ (_,_,_,_,_,_,_,_,_,m1) [] h (Nat.lt_succ_self _) trivial ?_;(cbv;(try simp only [e_rnil hR]);repeat' (first | exact trivial | exact rfl | exact Or.inr trivial | apply And.intro))
   refine hX1 _ _ ?_;cbv
   refine L_if hE h (fun h=>?_) (fun h=>?_)<;>cbv
   · refine L_hcall hE hR [0,1,2] [true,false,false] h (fun _ e=>(ih.2.2) e) rfl rfl rfl rfl (by subst hR;rfl) (by subst hR;rfl) ⟨(hf _ rfl),(hf _ rfl),trivial⟩ fun a14 h=>?_;cbv
     refine L_hcall hE hR [0,1,2] [true,false,false] h (fun _ e=>spots_writer_next_w e) rfl rfl rfl rfl (by subst hR;rfl) (by subst hR;rfl) ⟨(hf _ rfl),(hf _ rfl),trivial⟩ fun a15 h=>?_;cbv
     refine L_hcall hE hR [0,1,2] [true,false,false] h (fun _ e=>spots_writer_behind_w e) rfl rfl rfl rfl (by subst hR;rfl) (by subst hR;rfl) ⟨(hf _ rfl),(hf _ rfl),trivial⟩ fun a16 h=>?_;cbv
     exact And.left (hQ _ _ _ _ rfl rfl rfl (by cases h;subst hR;rfl) (by cases h;subst hR;rfl))
   refine L_fxH hE hR lay_ok (by kernel_rfl) 9 8 [0,1] [none,none,none,some (.box 78 [.ptr 0 0]),none,none,none,some (.box 61 [.t (.slc (R _ (cI .i64) v9)),.t (.slc (R _ (cI .i64) v10)),fB v11])] [0,1,2,3,6,8] [true,false,false,true,true,true] [fI .i64 (ar .sub .i64 p1.max p1.min),.ptr 3 0,.ptr 4 0,.ptr 5 0] [.box 59 [.lst 1,fB (((⟨(⟨v7,v4,v5,v6,v8⟩:GSpots)⟩:Gspots_writer).out).None),.t (.slc (R _ (cI .i64) (((⟨(⟨v7,v4,v5,v6,v8⟩:GSpots)⟩:Gspots_writer).out).First))),.t (.slc (R _ (cI .i64) (((⟨(⟨v7,v4,v5,v6,v8⟩:GSpots)⟩:Gspots_writer).out).Last))),.lst 2],.list 32 4 (R _ cSet (((⟨(⟨v7,v4,v5,v6,v8⟩:GSpots)⟩:Gspots_writer).out).Sets)),.list 23 1 (R _ (cLs (cI .i64)) (((⟨(⟨v7,v4,v5,v6,v8⟩:GSpots)⟩:Gspots_writer).out).Next)),.box 78 [.ptr 0 0],.box 35 [fI .i64 r1.kind,fI .u64 (r1.set.a.toNat:Int),fI .u64 (r1.set.b.toNat:Int),fI .u64 (r1.set.c.toNat:Int),fI .u64 (r1.set.d.toNat:Int),.t (.slc (R _ nodeRow r1.kids)),fI .i64 r1.min,fI .i64 r1.max],.box 93 [.fn 63 [.ptr 3 0,.ptr 4 0,.ptr 5 0]]] h (fun _ e=>(ih.1) e) (by subst hR;rfl) (by subst hR;rfl) rfl rfl rfl ⟨(hf _ rfl),(hf _ rfl),trivial⟩ rfl rfl rfl (by kernel_rfl) (fun _=>by kernel_rfl) (fun _=>by kernel_rfl) (by cbv;repeat' (first | exact rfl | trivial | apply And.intro)) (by cbv;repeat' (first | exact rfl | trivial | apply And.intro)) fun a17 h KK hKK=>?_;cbv
   (repeat' apply And.intro);(try (any_goals (first | exact rfl | trivial)));refine hKK _ ?_;cbv
   refine L_hcall hE hR [0,1,2] [true,false,false] h (fun _ e=>spots_writer_behind_w e) rfl rfl rfl rfl (by subst hR;rfl) (by subst hR;rfl) ⟨(hf _ rfl),(hf _ rfl),trivial⟩ fun a18 h=>?_;cbv
   exact And.left (hQ _ _ _ _ rfl rfl rfl (by cases h;subst hR;rfl) (by cases h;subst hR;rfl))
 · intro p1 s0 r h
   refine hfun_w lay_ok Tryd.call34 Tryd.func34 rfl [true,false,false] rfl ?_
   intro A W E Q R hE hR hf hQ;rcases W with ⟨ar,cm,conj,cv,sl,sc,ct,sa,ss,ll,_,_,_,_,mi,mx,_,_,_⟩
   rw [←hR]
   rw [spots_writer_write_g] at h
   rw [q_cm hE,q_ll hE,←hR] at h
   cbv
   refine L_if hE h (fun h=>?_) (fun h=>?_)<;>cbv
   · refine L_fxA hE hR lay_ok (by kernel_rfl) 10 9 [0] [] 1 h rfl (hf _ rfl) (fun _=>rfl) rfl rfl rfl (by decide) rfl (by decide) rfl rfl rfl rfl rfl (by kernel_rfl) (fun _=>by kernel_rfl) (fun _=>by kernel_rfl) (by cbv;repeat' (first | exact rfl | trivial | apply And.intro)) (by cbv;repeat' (first | exact rfl | trivial | apply And.intro)) fun l1 h KK hKK=>?_;cbv
     (repeat' apply And.intro);(try (any_goals (first | exact rfl | trivial)));refine hKK _ ?_;cbv
     refine L_appL hE hR h (by subst hR;rfl) (hf _ rfl) (fun _=>rfl) (by decide) fun l2 e h=>?_;cbv at e;rw [e];clear e
     exact And.left (hQ _ _ _ _ rfl rfl rfl (by cases h;subst hR;rfl) (by cases h;subst hR;rfl))
   refine L_if hE h (fun h=>?_) (fun h=>?_)<;>cbv
   · refine L_denilB hE 5 0 rfl rfl ?_;cbv
     refine L_denilB hE 5 1 rfl rfl ?_;cbv
     refine L_for hE lay_ok 6 (fun g:Int × Bool ×(List Int)×(List Int)×(List CSet)×(List (List Int))×(List Int)×(List Int)× Bool × Nat=>[(57,fI .i64 g.1)]) (fun g=>[(0,.box 59 [.lst 1,fB g.2.1,.t (.slc (R _ (cI .i64) g.2.2.1)),.t (.slc (R _ (cI .i64) g.2.2.2.1)),.lst 2]),(1,.list 32 4 (R _ cSet g.2.2.2.2.1)),(2,.list 23 1 (R _ (cLs (cI .i64)) g.2.2.2.2.2.1)),(5,.box 61 [.t (.slc (R _ (cI .i64) g.2.2.2.2.2.2.1)),.t (.slc (R _ (cI .i64) g.2.2.2.2.2.2.2.1)),fB g.2.2.2.2.2.2.2.2.1])]) (fun g=>spots_writer_write_l1 (spots_writer_write_g N) N p1 g.2.2.2.2.2.2.2.2.2 g.1 g.2.1 g.2.2.1 g.2.2.2.1 g.2.2.2.2.1 g.2.2.2.2.2.1 g.2.2.2.2.2.2.1 g.2.2.2.2.2.2.2.1 g.2.2.2.2.2.2.2.2.1=some r) (fun g=>g.2.2.2.2.2.2.2.2.2) (_,_,_,_,_,_,_,_,_,N) h ?_ ?_
     · (cbv;(try simp only [e_rnil hR]);repeat' (first | exact trivial | exact rfl | exact Or.inr trivial | apply And.intro))
     rintro ⟨v3,v4,v5,v6,v7,v8,v9,v10,v11,m1⟩ h Q1 hN1 hT1 hX1
     have h:spots_writer_write_l1 (spots_writer_write_g N) N p1 m1 v3 v4 v5 v6 v7 v8 v9 v10 v11=some r:=h
     cases m1 with
     | zero=>exact nomatch (show (none:Option _)=some _ from h)
     | succ m1=>
     rw [spots_writer_write_l1] at h
     rw [q_ar hE,q_cm hE,q_ll hE,←hR] at h
     cbv
     refine L_if hE h (fun h=>?_) (fun h=>?_)<;>cbv
     · refine L_rowN hE hR h fun r12 h=>?_;cbv
       refine L_hcall hE hR [0,1,2] [true,false,false] h (fun _ e=>(ih.2.2) e) rfl rfl rfl rfl (by subst hR;rfl) (by subst hR;rfl) ⟨(hf _ rfl),(hf _ rfl),trivial⟩ fun a13 h=>?_;cbv
       refine L_tail hE lay_ok (by kernel_rfl) 17 (by kernel_rfl) ?_;cbv
       refine L_pcall hE hR h (fun _ e=>spots_merge_w e) (by subst hR;rfl) rfl fun a14 h=>?_;cbv
       refine L_pcall hE hR h (fun _ e=>spots_merge_w e) (by subst hR;rfl) rfl fun a15 h=>?_;cbv
       refine L_if hE h (fun h=>?_) (fun h=>?_)<;>cbv
       · refine L_if hE h (fun h=>?_) (fun h=>?_)<;>cbv
         · refine L_if hE h (fun h=>?_) (fun h=>?_)<;>cbv
           · refine hN1 _ (_,_,_,_,_,_,_,_,_,m1) [] h (Nat.lt_succ_self _) trivial ?_;(cbv;(try simp only [e_rnil hR]);repeat' (first | exact trivial | exact rfl | exact Or.inr trivial | apply And.intro))
           exact nomatch h
         exact nomatch h
       refine L_if hE h (fun h=>?_) (fun h=>?_)<;>cbv
       · exact nomatch h
       refine L_if hE h (fun h=>?_) (fun h=>?_)<;>cbv
       · exact nomatch h
       refine hN1 _ (_,_,_,_,_,_,_,_,_,m1) [] h (Nat.lt_succ_self _) trivial ?_;(cbv;(try simp only [e_rnil hR]);repeat' (first | exact trivial | exact rfl | exact Or.inr trivial | apply And.intro))
     refine hX1 _ _ ?_;cbv
     exact And.left (hQ _ _ _ _ rfl rfl rfl (by cases h;subst hR;rfl) (by cases h;subst hR;rfl))
   refine L_if hE h (fun h=>?_) (fun h=>?_)<;>cbv
   · refine L_hcall hE hR [0,1,2] [true,false,false] h (fun _ e=>(ih.2.1) e) rfl rfl rfl rfl (by subst hR;rfl) (by subst hR;rfl) ⟨(hf _ rfl),(hf _ rfl),trivial⟩ fun a16 h=>?_;cbv
     exact And.left (hQ _ _ _ _ rfl rfl rfl (by cases h;subst hR;rfl) (by cases h;subst hR;rfl))
   refine L_denilB hE 5 0 rfl rfl ?_;cbv
   refine L_denilB hE 5 1 rfl rfl ?_;cbv
   refine L_for hE lay_ok 6 (fun g:Int × Bool ×(List Int)×(List Int)×(List CSet)×(List (List Int))×(List Int)×(List Int)× Bool × Nat=>[(92,fI .i64 g.1)]) (fun g=>[(0,.box 59 [.lst 1,fB g.2.1,.t (.slc (R _ (cI .i64) g.2.2.1)),.t (.slc (R _ (cI .i64) g.2.2.2.1)),.lst 2]),(1,.list 32 4 (R _ cSet g.2.2.2.2.1)),(2,.list 23 1 (R _ (cLs (cI .i64)) g.2.2.2.2.2.1)),(5,.box 61 [.t (.slc (R _ (cI .i64) g.2.2.2.2.2.2.1)),.t (.slc (R _ (cI .i64) g.2.2.2.2.2.2.2.1)),fB g.2.2.2.2.2.2.2.2.1])]) (fun g=>spots_writer_write_l2 (spots_writer_write_g N) N p1 g.2.2.2.2.2.2.2.2.2 g.1 g.2.1 g.2.2.1 g.2.2.2.1 g.2.2.2.2.1 g.2.2.2.2.2.1 g.2.2.2.2.2.2.1 g.2.2.2.2.2.2.2.1 g.2.2.2.2.2.2.2.2.1=some r) (fun g=>g.2.2.2.2.2.2.2.2.2) (_,_,_,_,_,_,_,_,_,N) h ?_ ?_
   · (cbv;(try simp only [e_rnil hR]);repeat' (first | exact trivial | exact rfl | exact Or.inr trivial | apply And.intro))
   rintro ⟨v17,v18,v19,v20,v21,v22,v23,v24,v25,m2⟩ h Q2 hN2 hT2 hX2
   have h:spots_writer_write_l2 (spots_writer_write_g N) N p1 m2 v17 v18 v19 v20 v21 v22 v23 v24 v25=some r:=h
   cases m2 with
   | zero=>exact nomatch (show (none:Option _)=some _ from h)
   | succ m2=>
   rw [spots_writer_write_l2] at h
   rw [q_ar hE,q_cm hE,q_ll hE,←hR] at h
   cbv
   refine L_if hE h (fun h=>?_) (fun h=>?_)<;>cbv
   · refine L_rowN hE hR h fun r26 h=>?_;cbv
     refine L_fxH hE hR lay_ok (by kernel_rfl) 5 4 [0,1] [none,none,none,none,none,some (.box 61 [.t (.slc (R _ (cI .i64) v23)),.t (.slc (R _ (cI .i64) v24)),fB v25])] [0,1,2] [true,false,false] [.ptr 0 0,.agg [fI .i64 r26.kind,fI .u64 (r26.set.a.toNat:Int),fI .u64 (r26.set.b.toNat:Int),fI .u64 (r26.set.c.toNat:Int),fI .u64 (r26.set.d.toNat:Int),.t (.slc (R _ nodeRow r26.kids)),fI .i64 r26.min,fI .i64 r26.max]] [.box 59 [.lst 1,fB (((⟨(⟨v21,v18,v19,v20,v22⟩:GSpots)⟩:Gspots_writer).out).None),.t (.slc (R _ (cI .i64) (((⟨(⟨v21,v18,v19,v20,v22⟩:GSpots)⟩:Gspots_writer).out).First))),.t (.slc (R _ (cI .i64) (((⟨(⟨v21,v18,v19,v20,v22⟩:GSpots)⟩:Gspots_writer).out).Last))),.lst 2],.list 32 4 (R _ cSet (((⟨(⟨v21,v18,v19,v20,v22⟩:GSpots)⟩:Gspots_writer).out).Sets)),.list 23 1 (R _ (cLs (cI .i64)) (((⟨(⟨v21,v18,v19,v20,v22⟩:GSpots)⟩:Gspots_writer).out).Next))] h (fun _ e=>(ih.2.2) e) (by subst hR;rfl) (by subst hR;rfl) rfl rfl rfl ⟨(hf _ rfl),(hf _ rfl),trivial⟩ rfl rfl rfl (by kernel_rfl) (fun _=>by kernel_rfl) (fun _=>by kernel_rfl) (by cbv;repeat' (first | exact rfl | trivial | apply And.intro)) (by cbv;repeat' (first | exact rfl | trivial | apply And.intro)) fun a27 h KK hKK=>?_;cbv
     (repeat' apply And.intro);(try (any_goals (first | exact rfl | trivial)));refine hKK _ ?_;cbv
     refine L_hcall hE hR [0,1,2] [true,false,false] h (fun _ e=>spots_writer_behind_w e) rfl rfl rfl rfl (by subst hR;rfl) (by subst hR;rfl) ⟨(hf _ rfl),(hf _ rfl),trivial⟩ fun a28 h=>?_;cbv
     refine hN2 _ (_,_,_,_,_,_,_,_,_,m2) [] h (Nat.lt_succ_self _) trivial ?_;(cbv;(try simp only [e_rnil hR]);repeat' (first | exact trivial | exact rfl | exact Or.inr trivial | apply And.intro))
   refine hX2 _ _ ?_;cbv
   exact And.left (hQ _ _ _ _ rfl rfl rfl (by cases h;subst hR;rfl) (by cases h;subst hR;rfl))
theorem spots_writer_write_w {N:Nat}:∀{p1:Node} {s0:Gspots_writer} {r:Gspots_part × Gspots_writer},spots_writer_write_g N p1 s0=some r→HFun Tryd.prog 34 [.ptr 0 0,.agg [fI .i64 p1.kind,fI .u64 (p1.set.a.toNat:Int),fI .u64 (p1.set.b.toNat:Int),fI .u64 (p1.set.c.toNat:Int),fI .u64 (p1.set.d.toNat:Int),.t (.slc (rw _ nodeRow p1.kids)),fI .i64 p1.min,fI .i64 p1.max]] [.box 59 [.lst 1,fB s0.out.None,.t (.slc (rw _ (cI .i64) s0.out.First)),.t (.slc (rw _ (cI .i64) s0.out.Last)),.lst 2],.list 32 4 (rw _ cSet s0.out.Sets),.list 23 1 (rw _ (cLs (cI .i64)) s0.out.Next)] (spots_writer_write_s rw r) (spots_writer_write_t rw r):=(grp_spots_writer_write N).2.2
end Gn
end Go.Proofs.YtbpihhelojjedaaDoor
