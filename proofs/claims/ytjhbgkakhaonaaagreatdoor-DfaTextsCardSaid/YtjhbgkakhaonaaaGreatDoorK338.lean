/- Texts that the proof leans on. -/
import Derived.Test.YtjhbgkakhaonaaaGreatDoorK337
import Derived.Test.YtjhbgkakhaonaaaGreatDoorK334
set_option linter.unusedVariables false
set_option linter.unusedSimpArgs false
set_option maxRecDepth 100000
set_option maxHeartbeats 4000000
namespace Go.Proofs.YtjhbgkakhaonaaaGreatDoor
open Go Go.RowKit
open Ab Sh
namespace Gn
theorem spots_writer_behind_w {N:Nat} {p1:Gspots_part} {p2:Gspots_part} {s0:Gspots_writer} {r:Gspots_part × Gspots_writer} (h:spots_writer_behind_g N p1 p2 s0=some r):HFun Tryz.prog 75 [.ptr 0 0,.agg [.t (.slc (rw _ (cI .i64) p1.first)),.t (.slc (rw _ (cI .i64) p1.last)),fB p1.none],.agg [.t (.slc (rw _ (cI .i64) p2.first)),.t (.slc (rw _ (cI .i64) p2.last)),fB p2.none]] [.box 82 [.lst 1,fB s0.out.None,.t (.slc (rw _ (cI .i64) s0.out.First)),.t (.slc (rw _ (cI .i64) s0.out.Last)),.lst 2],.list 45 4 (rw _ cSet s0.out.Sets),.list 23 1 (rw _ (cLs (cI .i64)) s0.out.Next)] (spots_writer_behind_s rw r) (spots_writer_behind_t rw r):=by
 refine hfun_w lay_ok Tryz.call75 Tryz.func75 rfl [true,false,false] rfl ?_
 intro A W E Q R hE hR hf hQ;rcases W with ⟨ar,cm,conj,cv,sl,sc,ct,sa,ss,ll,_,_,_,_,mi,mx,_,_,_,_,_⟩
 rw [←hR]
 unfold spots_writer_behind_g at h
 skip
 cbv
 refine L_hcall hE hR [0,1,2] [true,false,false] h (fun _ e=>spots_writer_next_w e) rfl rfl rfl rfl (by subst hR;rfl) (by subst hR;rfl) ⟨(hf _ rfl),(hf _ rfl),trivial⟩ fun a1 h=>?_;cbv
 refine L_rg hE lay_ok ?_;cbv
 refine L_if hE h (fun h=>?_) (fun h=>?_)<;>cbv
 · refine L_cd hE lay_ok ?_;cbv
   refine L_if hE h (fun h=>?_) (fun h=>?_)<;>cbv
   · refine L_call hE hR h (fun _ e=>spots_merge_w e) (by subst hR;rfl) rfl fun a2 h=>?_;cbv
     refine L_cdJ hE lay_ok h 7 (fun j1:(List Int)=>[]) (fun j1=>[(6,.box 84 [.t (.slc (R _ (cI .i64) a2)),.t (.slc (R _ (cI .i64) j1)),fB p2.none])]) (fun j1 h=>?_) (fun j1 h=>?_)<;>cbv
     · refine L_if hE h (fun h=>?_) (fun h=>?_)<;>cbv
       · refine L_call hE hR h (fun _ e=>spots_merge_w e) (by subst hR;rfl) rfl fun a3 h=>?_;cbv
         cases h;(cbv;(try simp only [e_rnil hR]);repeat' (first | exact trivial | exact rfl | exact Or.inr trivial | apply And.intro))
       cases h;(cbv;(try simp only [e_rnil hR]);repeat' (first | exact trivial | exact rfl | exact Or.inr trivial | apply And.intro))
     exact And.left (hQ _ _ _ _ rfl rfl rfl (by cases h;subst hR;rfl) (by cases h;subst hR;rfl))
   exact nomatch h
 refine L_cd hE lay_ok ?_;cbv
 refine L_if hE h (fun h=>?_) (fun h=>?_)<;>cbv
 · exact nomatch h
 refine L_cdJ hE lay_ok h 7 (fun j2:(List Int)=>[]) (fun j2=>[(6,.box 84 [.t (.slc (R _ (cI .i64) p1.first)),.t (.slc (R _ (cI .i64) j2)),fB false])]) (fun j2 h=>?_) (fun j2 h=>?_)<;>cbv
 · refine L_if hE h (fun h=>?_) (fun h=>?_)<;>cbv
   · refine L_call hE hR h (fun _ e=>spots_merge_w e) (by subst hR;rfl) rfl fun a4 h=>?_;cbv
     cases h;(cbv;(try simp only [e_rnil hR]);repeat' (first | exact trivial | exact rfl | exact Or.inr trivial | apply And.intro))
   cases h;(cbv;(try simp only [e_rnil hR]);repeat' (first | exact trivial | exact rfl | exact Or.inr trivial | apply And.intro))
 exact And.left (hQ _ _ _ _ rfl rfl rfl (by cases h;subst hR;rfl) (by cases h;subst hR;rfl))
theorem grp_spots_writer_write:∀N:Nat,(∀{p0:Int} {s0:Gspots_writer} {s2:Node} {r:Gspots_part × Gspots_writer},spots_writer_often_1_g N p0 s0 s2=some r→HFun Tryz.prog 91 [fI .i64 p0,.ptr 3 0,.ptr 4 0,.ptr 5 0] [.box 82 [.lst 1,fB s0.out.None,.t (.slc (rw _ (cI .i64) s0.out.First)),.t (.slc (rw _ (cI .i64) s0.out.Last)),.lst 2],.list 45 4 (rw _ cSet s0.out.Sets),.list 23 1 (rw _ (cLs (cI .i64)) s0.out.Next),.box 107 [.ptr 0 0],.box 48 [fI .i64 s2.kind,fI .u64 (s2.set.a.toNat:Int),fI .u64 (s2.set.b.toNat:Int),fI .u64 (s2.set.c.toNat:Int),fI .u64 (s2.set.d.toNat:Int),.t (.slc (rw _ nodeRow s2.kids)),fI .i64 s2.min,fI .i64 s2.max],.box 126 [.fn 91 [.ptr 3 0,.ptr 4 0,.ptr 5 0]]] (spots_writer_often_1_s rw r) (spots_writer_often_1_t s2 rw r))∧
 (∀{p1:Node} {s0:Gspots_writer} {r:Gspots_part × Gspots_writer},spots_writer_often_g N p1 s0=some r→HFun Tryz.prog 74 [.ptr 0 0,.agg [fI .i64 p1.kind,fI .u64 (p1.set.a.toNat:Int),fI .u64 (p1.set.b.toNat:Int),fI .u64 (p1.set.c.toNat:Int),fI .u64 (p1.set.d.toNat:Int),.t (.slc (rw _ nodeRow p1.kids)),fI .i64 p1.min,fI .i64 p1.max]] [.box 82 [.lst 1,fB s0.out.None,.t (.slc (rw _ (cI .i64) s0.out.First)),.t (.slc (rw _ (cI .i64) s0.out.Last)),.lst 2],.list 45 4 (rw _ cSet s0.out.Sets),.list 23 1 (rw _ (cLs (cI .i64)) s0.out.Next)] (spots_writer_often_s rw r) (spots_writer_often_t rw r))∧
 (∀{p1:Node} {s0:Gspots_writer} {r:Gspots_part × Gspots_writer},spots_writer_write_g N p1 s0=some r→HFun Tryz.prog 50 [.ptr 0 0,.agg [fI .i64 p1.kind,fI .u64 (p1.set.a.toNat:Int),fI .u64 (p1.set.b.toNat:Int),fI .u64 (p1.set.c.toNat:Int),fI .u64 (p1.set.d.toNat:Int),.t (.slc (rw _ nodeRow p1.kids)),fI .i64 p1.min,fI .i64 p1.max]] [.box 82 [.lst 1,fB s0.out.None,.t (.slc (rw _ (cI .i64) s0.out.First)),.t (.slc (rw _ (cI .i64) s0.out.Last)),.lst 2],.list 45 4 (rw _ cSet s0.out.Sets),.list 23 1 (rw _ (cLs (cI .i64)) s0.out.Next)] (spots_writer_write_s rw r) (spots_writer_write_t rw r)):=by
 intro N
 induction N with
 | zero=>exact ⟨(fun h=>nomatch (show (none:Option _)=some _ from h)),(fun h=>nomatch (show (none:Option _)=some _ from h)),(fun h=>nomatch (show (none:Option _)=some _ from h))⟩
 | succ N ih=>
 refine ⟨?_,?_,?_⟩
 · intro p0 s0 s2 r h
   refine hfun_w lay_ok Tryz.call91 Tryz.func91 rfl [true,false,false,true,true,true] rfl ?_
   intro A W E Q R hE hR hf hQ;rcases W with ⟨ar,cm,conj,cv,sl,sc,ct,sa,ss,ll,_,_,_,_,mi,mx,_,_,_,_,_⟩
   rw [←hR]
   rw [spots_writer_often_1_g] at h
   rw [q_ar hE,q_cm hE] at h
   cbv
   refine L_if hE h (fun h=>?_) (fun h=>?_)<;>cbv
   · exact And.left (hQ _ _ _ _ rfl rfl rfl (by cases h;subst hR;rfl) (by cases h;subst hR;rfl))
   refine L_hcall hE hR [0,1,2] [true,false,false] h (fun _ e=>(ih.2.2) e) rfl rfl rfl rfl (by subst hR;rfl) (by subst hR;rfl) ⟨(hf _ rfl),(hf _ rfl),trivial⟩ fun a1 h=>?_;cbv
   refine L_fxH hE hR lay_ok (by kernel_rfl) 6 5 [0,1] [none,none,none,some (.box 107 [.ptr 0 0]),none,none,none,some (.box 84 [.t (.slc (R _ (cI .i64) a1.1.first)),.t (.slc (R _ (cI .i64) a1.1.last)),fB a1.1.none])] [0,1,2,3,4,5] [true,false,false,true,true,true] [fI .i64 (ar .sub .i64 p0 1),.ptr 3 0,.ptr 4 0,.ptr 5 0] [.box 82 [.lst 1,fB a1.2.out.None,.t (.slc (R _ (cI .i64) a1.2.out.First)),.t (.slc (R _ (cI .i64) a1.2.out.Last)),.lst 2],.list 45 4 (R _ cSet a1.2.out.Sets),.list 23 1 (R _ (cLs (cI .i64)) a1.2.out.Next),.box 107 [.ptr 0 0],.box 48 [fI .i64 s2.kind,fI .u64 (s2.set.a.toNat:Int),fI .u64 (s2.set.b.toNat:Int),fI .u64 (s2.set.c.toNat:Int),fI .u64 (s2.set.d.toNat:Int),.t (.slc (R _ nodeRow s2.kids)),fI .i64 s2.min,fI .i64 s2.max],.box 126 [.fn 91 [.ptr 3 0,.ptr 4 0,.ptr 5 0]]] h (fun _ e=>(ih.1) e) (by subst hR;rfl) (by subst hR;rfl) rfl rfl rfl ⟨(hf _ rfl),(hf _ rfl),trivial⟩ rfl rfl rfl (by kernel_rfl) (fun _=>by kernel_rfl) (fun _=>by kernel_rfl) (by cbv;repeat' (first | exact rfl | trivial | apply And.intro)) (by cbv;repeat' (first | exact rfl | trivial | apply And.intro)) fun a2 h KK hKK=>?_;cbv
   (repeat' apply And.intro);(try (any_goals (first | exact rfl | trivial)));refine hKK _ ?_;cbv
   refine L_hcall hE hR [0,1,2] [true,false,false] h (fun _ e=>spots_writer_behind_w e) rfl rfl rfl rfl (by subst hR;rfl) (by subst hR;rfl) ⟨(hf _ rfl),(hf _ rfl),trivial⟩ fun a3 h=>?_;cbv
   exact And.left (hQ _ _ _ _ rfl rfl rfl (by cases h;subst hR;rfl) (by cases h;subst hR;rfl))
 · intro p1 s0 r h
   refine hfun_w lay_ok Tryz.call74 Tryz.func74 rfl [true,false,false] rfl ?_
   intro A W E Q R hE hR hf hQ;rcases W with ⟨ar,cm,conj,cv,sl,sc,ct,sa,ss,ll,_,_,_,_,mi,mx,_,_,_,_,_⟩
   rw [←hR]
   rw [spots_writer_often_g] at h
   rw [q_cm hE] at h
   cbv
   refine L_rowN hE hR h fun r1 h=>?_;cbv
   refine L_call hE hR h (fun _ e=>spots_count_w e) (by subst hR;rfl) rfl fun a2 h=>?_;cbv
   refine L_if hE h (fun h=>?_) (fun h=>?_)<;>cbv
   · exact And.left (hQ _ _ _ _ rfl rfl rfl (by cases h;subst hR;rfl) (by cases h;subst hR;rfl))
   refine L_denilB hE 7 0 rfl rfl ?_;cbv
   refine L_denilB hE 7 1 rfl rfl ?_;cbv
   refine L_for hE lay_ok 8 (fun g:Int × Bool ×(List Int)×(List Int)×(List CSet)×(List (List Int))×(List Int)×(List Int)× Bool × Nat=>[(20,fI .i64 g.1)]) (fun g=>[(0,.box 82 [.lst 1,fB g.2.1,.t (.slc (R _ (cI .i64) g.2.2.1)),.t (.slc (R _ (cI .i64) g.2.2.2.1)),.lst 2]),(1,.list 45 4 (R _ cSet g.2.2.2.2.1)),(2,.list 23 1 (R _ (cLs (cI .i64)) g.2.2.2.2.2.1)),(7,.box 84 [.t (.slc (R _ (cI .i64) g.2.2.2.2.2.2.1)),.t (.slc (R _ (cI .i64) g.2.2.2.2.2.2.2.1)),fB g.2.2.2.2.2.2.2.2.1])]) (fun g=>spots_writer_often_l1 (spots_writer_write_g N) (spots_writer_often_1_g N) N p1 r1 g.2.2.2.2.2.2.2.2.2 g.1 g.2.1 g.2.2.1 g.2.2.2.1 g.2.2.2.2.1 g.2.2.2.2.2.1 g.2.2.2.2.2.2.1 g.2.2.2.2.2.2.2.1 g.2.2.2.2.2.2.2.2.1=some r) (fun g=>g.2.2.2.2.2.2.2.2.2) (_,_,_,_,_,_,_,_,_,N) h ?_ ?_
   · (cbv;(try simp only [e_rnil hR]);repeat' (first | exact trivial | exact rfl | exact Or.inr trivial | apply And.intro))
   rintro ⟨v3,v4,v5,v6,v7,v8,v9,v10,v11,m1⟩ h Q1 hN1 hT1 hX1
   have h:spots_writer_often_l1 (spots_writer_write_g N) (spots_writer_often_1_g N) N p1 r1 m1 v3 v4 v5 v6 v7 v8 v9 v10 v11=some r:=h
   cases m1 with
   | zero=>exact nomatch (show (none:Option _)=some _ from h)
   | succ m1=>
   rw [spots_writer_often_l1] at h
   rw [q_ar hE,q_cm hE] at h
   cbv
   refine L_if hE h (fun h=>?_) (fun h=>?_)<;>cbv
   · refine L_fxH hE hR lay_ok (by kernel_rfl) 5 4 [0,1] [none,none,none,some (.box 107 [.ptr 0 0]),none,none,none,some (.box 84 [.t (.slc (R _ (cI .i64) v9)),.t (.slc (R _ (cI .i64) v10)),fB v11])] [0,1,2] [true,false,false] [.ptr 0 0,.agg [fI .i64 r1.kind,fI .u64 (r1.set.a.toNat:Int),fI .u64 (r1.set.b.toNat:Int),fI .u64 (r1.set.c.toNat:Int),fI .u64 (r1.set.d.toNat:Int),.t (.slc (R _ nodeRow r1.kids)),fI .i64 r1.min,fI .i64 r1.max]] [.box 82 [.lst 1,fB (((⟨(⟨v7,v4,v5,v6,v8⟩:GSpots)⟩:Gspots_writer).out).None),.t (.slc (R _ (cI .i64) (((⟨(⟨v7,v4,v5,v6,v8⟩:GSpots)⟩:Gspots_writer).out).First))),.t (.slc (R _ (cI .i64) (((⟨(⟨v7,v4,v5,v6,v8⟩:GSpots)⟩:Gspots_writer).out).Last))),.lst 2],.list 45 4 (R _ cSet (((⟨(⟨v7,v4,v5,v6,v8⟩:GSpots)⟩:Gspots_writer).out).Sets)),.list 23 1 (R _ (cLs (cI .i64)) (((⟨(⟨v7,v4,v5,v6,v8⟩:GSpots)⟩:Gspots_writer).out).Next))] h (fun _ e=>(ih.2.2) e) (by subst hR;rfl) (by subst hR;rfl) rfl rfl rfl ⟨(hf _ rfl),(hf _ rfl),trivial⟩ rfl rfl rfl (by kernel_rfl) (fun _=>by kernel_rfl) (fun _=>by kernel_rfl) (by cbv;repeat' (first | exact rfl | trivial | apply And.intro)) (by cbv;repeat' (first | exact rfl | trivial | apply And.intro)) fun a12 h KK hKK=>?_;cbv
     (repeat' apply And.intro);(try (any_goals (first | exact rfl | trivial)));refine hKK _ ?_;cbv
     refine L_hcall hE hR [0,1,2] [true,false,false] h (fun _ e=>spots_writer_behind_w e) rfl rfl rfl rfl (by subst hR;rfl) (by subst hR;rfl) ⟨(hf _ rfl),(hf _ rfl),trivial⟩ fun a13 h=>?_;cbv
     refine hN1 _ (_,_,_,_,_,_,_,_,_,m1) [] h (Nat.lt_succ_self _) trivial ?_;(cbv;(try simp only [e_rnil hR]);repeat' (first | exact trivial | exact rfl | exact Or.inr trivial | apply And.intro))
   refine hX1 _ _ ?_;cbv
   refine L_if hE h (fun h=>?_) (fun h=>?_)<;>cbv
   · refine L_hcall hE hR [0,1,2] [true,false,false] h (fun _ e=>(ih.2.2) e) rfl rfl rfl rfl (by subst hR;rfl) (by subst hR;rfl) ⟨(hf _ rfl),(hf _ rfl),trivial⟩ fun a14 h=>?_;cbv
     refine L_hcall hE hR [0,1,2] [true,false,false] h (fun _ e=>spots_writer_next_w e) rfl rfl rfl rfl (by subst hR;rfl) (by subst hR;rfl) ⟨(hf _ rfl),(hf _ rfl),trivial⟩ fun a15 h=>?_;cbv
     refine L_hcall hE hR [0,1,2] [true,false,false] h (fun _ e=>spots_writer_behind_w e) rfl rfl rfl rfl (by subst hR;rfl) (by subst hR;rfl) ⟨(hf _ rfl),(hf _ rfl),trivial⟩ fun a16 h=>?_;cbv
     exact And.left (hQ _ _ _ _ rfl rfl rfl (by cases h;subst hR;rfl) (by cases h;subst hR;rfl))
   refine L_fxH hE hR lay_ok (by kernel_rfl) 9 8 [0,1] [none,none,none,some (.box 107 [.ptr 0 0]),none,none,none,some (.box 84 [.t (.slc (R _ (cI .i64) v9)),.t (.slc (R _ (cI .i64) v10)),fB v11])] [0,1,2,3,6,8] [true,false,false,true,true,true] [fI .i64 (ar .sub .i64 p1.max p1.min),.ptr 3 0,.ptr 4 0,.ptr 5 0] [.box 82 [.lst 1,fB (((⟨(⟨v7,v4,v5,v6,v8⟩:GSpots)⟩:Gspots_writer).out).None),.t (.slc (R _ (cI .i64) (((⟨(⟨v7,v4,v5,v6,v8⟩:GSpots)⟩:Gspots_writer).out).First))),.t (.slc (R _ (cI .i64) (((⟨(⟨v7,v4,v5,v6,v8⟩:GSpots)⟩:Gspots_writer).out).Last))),.lst 2],.list 45 4 (R _ cSet (((⟨(⟨v7,v4,v5,v6,v8⟩:GSpots)⟩:Gspots_writer).out).Sets)),.list 23 1 (R _ (cLs (cI .i64)) (((⟨(⟨v7,v4,v5,v6,v8⟩:GSpots)⟩:Gspots_writer).out).Next)),.box 107 [.ptr 0 0],.box 48 [fI .i64 r1.kind,fI .u64 (r1.set.a.toNat:Int),fI .u64 (r1.set.b.toNat:Int),fI .u64 (r1.set.c.toNat:Int),fI .u64 (r1.set.d.toNat:Int),.t (.slc (R _ nodeRow r1.kids)),fI .i64 r1.min,fI .i64 r1.max],.box 126 [.fn 91 [.ptr 3 0,.ptr 4 0,.ptr 5 0]]] h (fun _ e=>(ih.1) e) (by subst hR;rfl) (by subst hR;rfl) rfl rfl rfl ⟨(hf _ rfl),(hf _ rfl),trivial⟩ rfl rfl rfl (by kernel_rfl) (fun _=>by kernel_rfl) (fun _=>by kernel_rfl) (by cbv;repeat' (first | exact rfl | trivial | apply And.intro)) (by cbv;repeat' (first | exact rfl | trivial | apply And.intro)) fun a17 h KK hKK=>?_;cbv
   (repeat' apply And.intro);(try (any_goals (first | exact rfl | trivial)));refine hKK _ ?_;cbv
   refine L_hcall hE hR [0,1,2] [true,false,false] h (fun _ e=>spots_writer_behind_w e) rfl rfl rfl rfl (by subst hR;rfl) (by subst hR;rfl) ⟨(hf _ rfl),(hf _ rfl),trivial⟩ fun a18 h=>?_;cbv
   exact And.left (hQ _ _ _ _ rfl rfl rfl (by cases h;subst hR;rfl) (by cases h;subst hR;rfl))
 · intro p1 s0 r h
   refine hfun_w lay_ok Tryz.call50 Tryz.func50 rfl [true,false,false] rfl ?_
   intro A W E Q R hE hR hf hQ;rcases W with ⟨ar,cm,conj,cv,sl,sc,ct,sa,ss,ll,_,_,_,_,mi,mx,_,_,_,_,_⟩
   rw [←hR]
   rw [spots_writer_write_g] at h
   rw [q_cm hE,q_ll hE,←hR] at h
   cbv
   refine L_if hE h (fun h=>?_) (fun h=>?_)<;>cbv
   · refine L_fxA hE hR lay_ok (by kernel_rfl) 10 9 [0] [] 1 h rfl (hf _ rfl) (fun _=>rfl) rfl rfl rfl (by decide) rfl (by decide) rfl rfl rfl rfl rfl (by kernel_rfl) (fun _=>by kernel_rfl) (fun _=>by kernel_rfl) (by cbv;repeat' (first | exact rfl | trivial | apply And.intro)) (by cbv;repeat' (first | exact rfl | trivial | apply And.intro)) fun l1 h KK hKK=>?_;cbv
     (repeat' apply And.intro);(try (any_goals (first | exact rfl | trivial)));refine hKK _ ?_;cbv
     refine L_appL hE hR h (by subst hR;rfl) (hf _ rfl) (fun _=>rfl) (by decide) fun l2 e h=>?_;cbv at e;rw [e];clear e
     exact And.left (hQ _ _ _ _ rfl rfl rfl (by cases h;subst hR;rfl) (by cases h;subst hR;rfl))
   refine L_if hE h (fun h=>?_) (fun h=>?_)<;>cbv
   · refine L_denilB hE 5 0 rfl rfl ?_;cbv
     refine L_denilB hE 5 1 rfl rfl ?_;cbv
     refine L_for hE lay_ok 6 (fun g:Int × Bool ×(List Int)×(List Int)×(List CSet)×(List (List Int))×(List Int)×(List Int)× Bool × Nat=>[(57,fI .i64 g.1)]) (fun g=>[(0,.box 82 [.lst 1,fB g.2.1,.t (.slc (R _ (cI .i64) g.2.2.1)),.t (.slc (R _ (cI .i64) g.2.2.2.1)),.lst 2]),(1,.list 45 4 (R _ cSet g.2.2.2.2.1)),(2,.list 23 1 (R _ (cLs (cI .i64)) g.2.2.2.2.2.1)),(5,.box 84 [.t (.slc (R _ (cI .i64) g.2.2.2.2.2.2.1)),.t (.slc (R _ (cI .i64) g.2.2.2.2.2.2.2.1)),fB g.2.2.2.2.2.2.2.2.1])]) (fun g=>spots_writer_write_l1 (spots_writer_write_g N) N p1 g.2.2.2.2.2.2.2.2.2 g.1 g.2.1 g.2.2.1 g.2.2.2.1 g.2.2.2.2.1 g.2.2.2.2.2.1 g.2.2.2.2.2.2.1 g.2.2.2.2.2.2.2.1 g.2.2.2.2.2.2.2.2.1=some r) (fun g=>g.2.2.2.2.2.2.2.2.2) (_,_,_,_,_,_,_,_,_,N) h ?_ ?_
     · (cbv;(try simp only [e_rnil hR]);repeat' (first | exact trivial | exact rfl | exact Or.inr trivial | apply And.intro))
     rintro ⟨v3,v4,v5,v6,v7,v8,v9,v10,v11,m1⟩ h Q1 hN1 hT1 hX1
     have h:spots_writer_write_l1 (spots_writer_write_g N) N p1 m1 v3 v4 v5 v6 v7 v8 v9 v10 v11=some r:=h
     cases m1 with
     | zero=>exact nomatch (show (none:Option _)=some _ from h)
     | succ m1=>
     rw [spots_writer_write_l1] at h
     rw [q_ar hE,q_cm hE,q_ll hE,←hR] at h
     cbv
     refine L_if hE h (fun h=>?_) (fun h=>?_)<;>cbv
     · refine L_rowN hE hR h fun r12 h=>?_;cbv
       refine L_hcall hE hR [0,1,2] [true,false,false] h (fun _ e=>(ih.2.2) e) rfl rfl rfl rfl (by subst hR;rfl) (by subst hR;rfl) ⟨(hf _ rfl),(hf _ rfl),trivial⟩ fun a13 h=>?_;cbv
       refine L_tail hE lay_ok (by kernel_rfl) 17 (by kernel_rfl) ?_;cbv
       refine L_pcall hE hR h (fun _ e=>spots_merge_w e) (by subst hR;rfl) rfl fun a14 h=>?_;cbv
       refine L_pcall hE hR h (fun _ e=>spots_merge_w e) (by subst hR;rfl) rfl fun a15 h=>?_;cbv
       refine L_if hE h (fun h=>?_) (fun h=>?_)<;>cbv
       · refine L_if hE h (fun h=>?_) (fun h=>?_)<;>cbv
         · refine L_if hE h (fun h=>?_) (fun h=>?_)<;>cbv
           · refine hN1 _ (_,_,_,_,_,_,_,_,_,m1) [] h (Nat.lt_succ_self _) trivial ?_;(cbv;(try simp only [e_rnil hR]);repeat' (first | exact trivial | exact rfl | exact Or.inr trivial | apply And.intro))
           exact nomatch h
         exact nomatch h
       refine L_if hE h (fun h=>?_) (fun h=>?_)<;>cbv
       · exact nomatch h
       refine L_if hE h (fun h=>?_) (fun h=>?_)<;>cbv
       · exact nomatch h
       refine hN1 _ (_,_,_,_,_,_,_,_,_,m1) [] h (Nat.lt_succ_self _) trivial ?_;(cbv;(try simp only [e_rnil hR]);repeat' (first | exact trivial | exact rfl | exact Or.inr trivial | apply And.intro))
     refine hX1 _ _ ?_;cbv
     exact And.left (hQ _ _ _ _ rfl rfl rfl (by cases h;subst hR;rfl) (by cases h;subst hR;rfl))
   refine L_if hE h (fun h=>?_) (fun h=>?_)<;>cbv
   · refine L_hcall hE hR [0,1,2] [true,false,false] h (fun _ e=>(ih.2.1) e) rfl rfl rfl rfl (by subst hR;rfl) (by subst hR;rfl) ⟨(hf _ rfl),(hf _ rfl),trivial⟩ fun a16 h=>?_;cbv
     exact And.left (hQ _ _ _ _ rfl rfl rfl (by cases h;subst hR;rfl) (by cases h;subst hR;rfl))
   refine L_denilB hE 5 0 rfl rfl ?_;cbv
   refine L_denilB hE 5 1 rfl rfl ?_;cbv
   refine L_for hE lay_ok 6 (fun g:Int × Bool ×(List Int)×(List Int)×(List CSet)×(List (List Int))×(List Int)×(List Int)× Bool × Nat=>[(92,fI .i64 g.1)]) (fun g=>[(0,.box 82 [.lst 1,fB g.2.1,.t (.slc (R _ (cI .i64) g.2.2.1)),.t (.slc (R _ (cI .i64) g.2.2.2.1)),.lst 2]),(1,.list 45 4 (R _ cSet g.2.2.2.2.1)),(2,.list 23 1 (R _ (cLs (cI .i64)) g.2.2.2.2.2.1)),(5,.box 84 [.t (.slc (R _ (cI .i64) g.2.2.2.2.2.2.1)),.t (.slc (R _ (cI .i64) g.2.2.2.2.2.2.2.1)),fB g.2.2.2.2.2.2.2.2.1])]) (fun g=>spots_writer_write_l2 (spots_writer_write_g N) N p1 g.2.2.2.2.2.2.2.2.2 g.1 g.2.1 g.2.2.1 g.2.2.2.1 g.2.2.2.2.1 g.2.2.2.2.2.1 g.2.2.2.2.2.2.1 g.2.2.2.2.2.2.2.1 g.2.2.2.2.2.2.2.2.1=some r) (fun g=>g.2.2.2.2.2.2.2.2.2) (_,_,_,_,_,_,_,_,_,N) h ?_ ?_
   · (cbv;(try simp only [e_rnil hR]);repeat' (first | exact trivial | exact rfl | exact Or.inr trivial | apply And.intro))
   rintro ⟨v17,v18,v19,v20,v21,v22,v23,v24,v25,m2⟩ h Q2 hN2 hT2 hX2
   have h:spots_writer_write_l2 (spots_writer_write_g N) N p1 m2 v17 v18 v19 v20 v21 v22 v23 v24 v25=some r:=h
   cases m2 with
   | zero=>exact nomatch (show (none:Option _)=some _ from h)
   | succ m2=>
   rw [spots_writer_write_l2] at h
   rw [q_ar hE,q_cm hE,q_ll hE,←hR] at h
   cbv
   refine L_if hE h (fun h=>?_) (fun h=>?_)<;>cbv
   · refine L_rowN hE hR h fun r26 h=>?_;cbv
     refine L_fxH hE hR lay_ok (by kernel_rfl) 5 4 [0,1] [none,none,none,none,none,some (.box 84 [.t (.slc (R _ (cI .i64) v23)),.t (.slc (R _ (cI .i64) v24)),fB v25])] [0,1,2] [true,false,false] [.ptr 0 0,.agg [fI .i64 r26.kind,fI .u64 (r26.set.a.toNat:Int),fI .u64 (r26.set.b.toNat:Int),fI .u64 (r26.set.c.toNat:Int),fI .u64 (r26.set.d.toNat:Int),.t (.slc (R _ nodeRow r26.kids)),fI .i64 r26.min,fI .i64 r26.max]] [.box 82 [.lst 1,fB (((⟨(⟨v21,v18,v19,v20,v22⟩:GSpots)⟩:Gspots_writer).out).None),.t (.slc (R _ (cI .i64) (((⟨(⟨v21,v18,v19,v20,v22⟩:GSpots)⟩:Gspots_writer).out).First))),.t (.slc (R _ (cI .i64) (((⟨(⟨v21,v18,v19,v20,v22⟩:GSpots)⟩:Gspots_writer).out).Last))),.lst 2],.list 45 4 (R _ cSet (((⟨(⟨v21,v18,v19,v20,v22⟩:GSpots)⟩:Gspots_writer).out).Sets)),.list 23 1 (R _ (cLs (cI .i64)) (((⟨(⟨v21,v18,v19,v20,v22⟩:GSpots)⟩:Gspots_writer).out).Next))] h (fun _ e=>(ih.2.2) e) (by subst hR;rfl) (by subst hR;rfl) rfl rfl rfl ⟨(hf _ rfl),(hf _ rfl),trivial⟩ rfl rfl rfl (by kernel_rfl) (fun _=>by kernel_rfl) (fun _=>by kernel_rfl) (by cbv;repeat' (first | exact rfl | trivial | apply And.intro)) (by cbv;repeat' (first | exact rfl | trivial | apply And.intro)) fun a27 h KK hKK=>?_;cbv
     (repeat' apply And.intro);(try (any_goals (first | exact rfl | trivial)));refine hKK _ ?_;cbv
     refine L_hcall hE hR [0,1,2] [true,false,false] h (fun _ e=>spots_writer_behind_w e) rfl rfl rfl rfl (by subst hR;rfl) (by subst hR;rfl) ⟨(hf _ rfl),(hf _ rfl),trivial⟩ fun a28 h=>?_;cbv
     refine hN2 _ (_,_,_,_,_,_,_,_,_,m2) [] h (Nat.lt_succ_self _) trivial ?_;(cbv;(try simp only [e_rnil hR]);repeat' (first | exact trivial | exact rfl | exact Or.inr trivial | apply And.intro))
   refine hX2 _ _ ?_;cbv
   exact And.left (hQ _ _ _ _ rfl rfl rfl (by cases h;subst hR;rfl) (by cases h;subst hR;rfl))
theorem spots_writer_write_w {N:Nat}:∀{p1:Node} {s0:Gspots_writer} {r:Gspots_part × Gspots_writer},spots_writer_write_g N p1 s0=some r→HFun Tryz.prog 50 [.ptr 0 0,.agg [fI .i64 p1.kind,fI .u64 (p1.set.a.toNat:Int),fI .u64 (p1.set.b.toNat:Int),fI .u64 (p1.set.c.toNat:Int),fI .u64 (p1.set.d.toNat:Int),.t (.slc (rw _ nodeRow p1.kids)),fI .i64 p1.min,fI .i64 p1.max]] [.box 82 [.lst 1,fB s0.out.None,.t (.slc (rw _ (cI .i64) s0.out.First)),.t (.slc (rw _ (cI .i64) s0.out.Last)),.lst 2],.list 45 4 (rw _ cSet s0.out.Sets),.list 23 1 (rw _ (cLs (cI .i64)) s0.out.Next)] (spots_writer_write_s rw r) (spots_writer_write_t rw r):=(grp_spots_writer_write N).2.2
end Gn
end Go.Proofs.YtjhbgkakhaonaaaGreatDoor
namespace Go.Proofs.YtjhbgkakhaonaaaGreatDoor
open Go Go.RowKit
open Ab Sh
namespace Gn
theorem slices_CloneI_w {p0:List Int} {r:List Int} (h:slices_CloneI_g p0=some r):FunS Tryz.prog 51 [.t (.slc (rw _ (cI .i64) p0))] (slices_CloneI_s rw) r:=by
 refine fun_w lay_ok Tryz.call51 Tryz.func51 rfl ?_
 intro A W E Q R hE hR hf hQ;rcases W with ⟨ar,cm,conj,cv,sl,sc,ct,sa,ss,ll,_,_,_,_,mi,mx,_,_,_,_,_⟩
 rw [←hR]
 unfold slices_CloneI_g at h
 skip
 cbv
 refine L_nilq hE hR h (fun e=>by subst e;rfl) (fun h=>?_) (fun h=>?_)<;>cbv
 · refine L_t hE ?_;cbv
   exact And.left (hQ _ _ _ rfl rfl (by cases h;subst hR;rfl))
 refine L_f hE ?_;cbv
 refine L_lit hR (e:=(cI .i64)) h rfl fun l1 e h=>?_;cbv at e;rw [e];clear e
 refine L_app hE hR h (hf _) (fun _=>rfl) (by decide) fun l2 e h=>?_;cbv at e;rw [e];clear e
 exact And.left (hQ _ _ _ rfl rfl (by cases h;subst hR;rfl))
theorem spots_Of_w {N:Nat} {p0:Node} {r:GSpots × Int} (h:spots_Of_g N p0=some r):FunS Tryz.prog 22 [.agg [fI .i64 p0.kind,fI .u64 (p0.set.a.toNat:Int),fI .u64 (p0.set.b.toNat:Int),fI .u64 (p0.set.c.toNat:Int),fI .u64 (p0.set.d.toNat:Int),.t (.slc (rw _ nodeRow p0.kids)),fI .i64 p0.min,fI .i64 p0.max]] (spots_Of_s rw) r:=by
 refine fun_w lay_ok Tryz.call22 Tryz.func22 rfl ?_
 intro A W E Q R hE hR hf hQ;rcases W with ⟨ar,cm,conj,cv,sl,sc,ct,sa,ss,ll,_,_,_,_,mi,mx,_,_,_,_,_⟩
 rw [←hR]
 unfold spots_Of_g at h
 rw [q_cm hE] at h
 cbv
 refine L_call hE hR h (fun _ e=>regex_Right_w e) (by subst hR;rfl) rfl fun a1 h=>?_;cbv
 refine L_if hE h (fun h=>?_) (fun h=>?_)<;>cbv
 · exact And.left (hQ _ _ _ rfl rfl (by cases h;subst hR;rfl))
 refine L_call hE hR h (fun _ e=>spots_count_w e) (by subst hR;rfl) rfl fun a2 h=>?_;cbv
 refine L_if hE h (fun h=>?_) (fun h=>?_)<;>cbv
 · exact And.left (hQ _ _ _ rfl rfl (by cases h;subst hR;rfl))
 refine L_opn hE 2 0 45 4 rfl rfl ?_;cbv
 refine L_opn hE 2 4 23 1 rfl rfl ?_;cbv
 refine L_hcall hE hR [2,3,4] [true,false,false] h (fun _ e=>spots_writer_write_w e) rfl rfl rfl rfl (by subst hR;rfl) (by subst hR;rfl) ⟨(hf _),(hf _),trivial⟩ fun a3 h=>?_;cbv
 obtain ⟨a4,ea4,h⟩:=conv_some h
 obtain ⟨a5,ea5,h⟩:=conv_some h
 refine L_fxS hE lay_ok (by kernel_rfl) 14 [(10,2,2,[.t (.slc (R _ (cI .i64) a4))]),(13,2,3,[.t (.slc (R _ (cI .i64) a5))])] [6,7,11,12] [none,none,none,none,none,some (.box 84 [.t (.slc (R _ (cI .i64) a3.1.first)),.t (.slc (R _ (cI .i64) a3.1.last)),fB a3.1.none])] (by kernel_rfl) (by kernel_rfl) (by kernel_rfl) (by kernel_rfl) (by cbv;repeat' (first | exact rfl | trivial | apply And.intro)) (by cbv;repeat' (first | exact rfl | trivial | apply And.intro)) fun KK hKK=>?_;cbv
 refine L_pcall hE hR (X:=some) (by rw [ea4];rfl) (fun _ e=>slices_CloneI_w e) (by subst hR;rfl) rfl fun _ hx=>?_;cases hx;cbv
 refine L_pcall hE hR (X:=some) (by rw [ea5];rfl) (fun _ e=>slices_CloneI_w e) (by subst hR;rfl) rfl fun _ hx=>?_;cases hx;cbv
 (repeat' apply And.intro);(try (any_goals (first | exact rfl | trivial)));refine hKK _ ?_;cbv
 exact And.left (hQ _ _ _ rfl rfl (by cases h;subst hR;rfl))
theorem l18_works_w {N:Nat} {r:Bool} (h:l18_works_g N=some r):FunS Tryz.prog 8 [] (l18_works_s rw) r:=by
 refine fun_w lay_ok Tryz.call8 Tryz.func8 rfl ?_
 intro A W E Q R hE hR hf hQ;rcases W with ⟨ar,cm,conj,cv,sl,sc,ct,sa,ss,ll,_,_,_,_,mi,mx,_,_,_,_,_⟩
 unfold l18_works_g at h
 rw [q_cm hE,q_conj hE,q_ll hE,←hR] at h
 cbv
 refine L_call hE hR h (fun _ e=>regex_Parse_w e) rfl rfl fun a1 h=>?_;cbv
 refine L_call hE hR h (fun _ e=>spots_Of_w e) (by subst hR;rfl) rfl fun a2 h=>?_;cbv
 refine L_call hE hR h (fun _ e=>dfa_Of_w e) (by subst hR;rfl) rfl fun a3 h=>?_;cbv
 refine L_call hE hR h (fun _ e=>dfa_Word_w e) rfl rfl fun a4 h=>?_;cbv
 refine L_rgJ hE lay_ok h 5 (fun j1:Bool=>[(0,fB j1)]) (fun j1=>[]) (fun j1 h=>?_) (fun j1 h=>?_)<;>cbv
 · refine L_if hE h (fun h=>?_) (fun h=>?_)<;>cbv
   · refine L_if hE h (fun h=>?_) (fun h=>?_)<;>cbv
     · refine L_if hE h (fun h=>?_) (fun h=>?_)<;>cbv
       · refine L_if hE h (fun h=>?_) (fun h=>?_)<;>cbv
         · refine L_call hE hR h (fun _ e=>dfa_Run_w e) (by subst hR;rfl) rfl fun a5 h=>?_;cbv
           refine L_if hE h (fun h=>?_) (fun h=>?_)<;>cbv
           · refine L_call hE hR h (fun _ e=>dfa_Run_w e) (by subst hR;rfl) rfl fun a6 h=>?_;cbv
             refine L_if hE h (fun h=>?_) (fun h=>?_)<;>cbv
             · refine L_call hE hR h (fun _ e=>dfa_Run_w e) (by subst hR;rfl) rfl fun a7 h=>?_;cbv
               refine L_if hE h (fun h=>?_) (fun h=>?_)<;>cbv
               · refine L_if hE h (fun h=>?_) (fun h=>?_)<;>cbv
                 · refine L_call hE hR h (fun _ e=>dfa_Run_w e) (by subst hR;rfl) rfl fun a8 h=>?_;cbv
                   refine L_if hE h (fun h=>?_) (fun h=>?_)<;>cbv
                   · refine L_call hE hR h (fun _ e=>dfa_Run_w e) (by subst hR;rfl) rfl fun a9 h=>?_;cbv
                     cases h;(cbv;(try simp only [e_rnil hR]);repeat' (first | exact trivial | exact rfl | exact Or.inr trivial | apply And.intro))
                   cases h;(cbv;(try simp only [e_rnil hR]);repeat' (first | exact trivial | exact rfl | exact Or.inr trivial | apply And.intro))
                 cases h;(cbv;(try simp only [e_rnil hR]);repeat' (first | exact trivial | exact rfl | exact Or.inr trivial | apply And.intro))
               cases h;(cbv;(try simp only [e_rnil hR]);repeat' (first | exact trivial | exact rfl | exact Or.inr trivial | apply And.intro))
             cases h;(cbv;(try simp only [e_rnil hR]);repeat' (first | exact trivial | exact rfl | exact Or.inr trivial | apply And.intro))
           cases h;(cbv;(try simp only [e_rnil hR]);repeat' (first | exact trivial | exact rfl | exact Or.inr trivial | apply And.intro))
         cases h;(cbv;(try simp only [e_rnil hR]);repeat' (first | exact trivial | exact rfl | exact Or.inr trivial | apply And.intro))
       cases h;(cbv;(try simp only [e_rnil hR]);repeat' (first | exact trivial | exact rfl | exact Or.inr trivial | apply And.intro))
     cases h;(cbv;(try simp only [e_rnil hR]);repeat' (first | exact trivial | exact rfl | exact Or.inr trivial | apply And.intro))
   cases h;(cbv;(try simp only [e_rnil hR]);repeat' (first | exact trivial | exact rfl | exact Or.inr trivial | apply And.intro))
 exact And.left (hQ _ _ _ rfl rfl (by cases h;subst hR;rfl))
end Gn
end Go.Proofs.YtjhbgkakhaonaaaGreatDoor
namespace Go.Proofs.YtjhbgkakhaonaaaGreatDoor
open Go Go.RowKit
open Ab Sh
namespace Gn
def works18_g:Option Bool:=some true
theorem works18_w {r:Bool} (h:works18_g=some r):FunS Tryz.prog 8 [] (boolS rw) r:=by
 cases h;exact l18_works_w Dq.works18
end Gn
end Go.Proofs.YtjhbgkakhaonaaaGreatDoor
namespace Go.Proofs.YtjhbgkakhaonaaaGreatDoor
open Go Go.RowKit
open Ab Sh
namespace Gn
def l18_DfaTexts6_s (R:RF) (r:Bool):V:=fB r
def l18_DfaTexts6_g (N:Nat) (p0:Node) (p1:ByteArray):Option Bool:=
 ((l13_Great_g N p0).bind fun a1=>
 cond (a1)
 (some true)
 (cond (cm .gtr (sl p1) 30)
 (some true)
 ((spots_Count_g N p0).bind fun a2=>
 some (cm .gtr a2 60))):Option Bool).bind fun j1=>
 cond (j1)
 ((works18_g).bind fun a3=>
 some a3)
 ((spots_Of_g N p0).bind fun a4=>
 (dfa_Of_g N a4.1).bind fun a5=>
 cond (cm .neq a4.2 0)
 ((works18_g).bind fun a6=>
 some a6)
 (cond (cm .neq a5.2 0)
 ((cond (cm .eql a5.2 16)
 (cond (cm .eql (ll (rw _ (cLs (cI .i64)) a5.1.Next)) 0)
 ((works18_g).bind fun a7=>
 some a7)
 (some false))
 (some false):Option Bool).bind fun j2=>
 some j2)
 ((dfa_Right_g N a5.1).bind fun a8=>
 cond (a8)
 (cond (a8)
 (cond (a8)
 ((dfa_Run_g N a5.1 p1).bind fun a9=>
 cond (a8)
 (cond (a8)
 (cond (a8)
 ((match_Match_g N p0 p1).bind fun a10=>
 cond (a8)
 (cond (a8)
 (cond (conj [a9==a10])
 ((works18_g).bind fun a11=>
 cond (conj [a9==a10])
 (some a11)
 (none))
 (cond (conj [a9==a10])
 (none)
 (some false)))
 (none))
 (none))
 (none))
 (none))
 (none))
 (none))
 (none))
 (cond (a8)
 (none)
 (cond (a8)
 (none)
 (cond (a8)
 (none)
 (cond (a8)
 (none)
 (cond (a8)
 (none)
 (cond (a8)
 (none)
 (cond (a8)
 (none)
 (some false)))))))))))
end Gn
end Go.Proofs.YtjhbgkakhaonaaaGreatDoor
namespace Go.Proofs.YtjhbgkakhaonaaaGreatDoor
open Go
open Sh Gn
open Mx (lang)
open Pl (Lens of_p of_bad wr_match great_p xright_p mmatch_p hits matchB Low)
namespace Dq
theorem dtexts_law {N:Nat} {n:Node} {s:ByteArray} {g:Bool} (hN:30*n.size+10000≤N) (hg:l13_Great_g N n=some g) (hz:Lens n) (hR:g=false→regex_Right_g N n=some (Rx.right n)) (hM:g=false→s.size≤30→Rx.right n=true→∃b,match_Match_g N n s=some b∧(b=true↔lang n s.data.toList)):l18_DfaTexts6_g N n s=some true:=by
 unfold l18_DfaTexts6_g
 rw [hg]
 cases g with
 | true=>rfl
 | false=>
   have hR:=hR rfl
   simp only [Option.bind_some,_root_.cond_false,cm_gtr,cond_dec,sl_eq]
   by_cases h1:(30:Int)<s.size
   · simp only [h1,if_true,Option.bind_some,_root_.cond_true];rfl
   simp only [h1,if_false]
   have hCt:spots_Count_g N n=some (if Rx.right n=true then ((min (Pl.cnt n) 513:Nat):Int) else 0):=by
    unfold spots_Count_g
    rw [hR,Option.bind_some]
    cases hr:Rx.right n with
    | false=>rfl
    | true=>rw [Pl.count_p n.size n (Nat.le_refl _) hz hr N (by omega)];rfl
   rw [hCt]
   cases hr:Rx.right n with
   | false=>
     rw [hr] at hR
     have low0:Low (⟨[],false,[],[],[]⟩:GSpots):=⟨by simp,by simp,by simp,by simp,by simp⟩
     rw [of_bad hR]
     rcases made_of (p:=⟨[],false,[],[],[]⟩) (by decide) low0 (N:=N) (by omega) with e | ⟨d,e,-⟩
     · simp only [Bool.false_eq_true,if_false,Option.bind_some,show decide ((60:Int)<0)=false from rfl,_root_.cond_false,e];rfl
     · simp only [Bool.false_eq_true,if_false,Option.bind_some,show decide ((60:Int)<0)=false from rfl,_root_.cond_false,e];rfl
   | true=>
     rw [hr] at hR
     simp only [if_true,Option.bind_some]
     by_cases h2:(60:Int)<((min (Pl.cnt n) 513:Nat):Int)
     · simp only [h2,decide_true,_root_.cond_true];rfl
     simp only [h2,decide_false,_root_.cond_false]
     have hc:Pl.cnt n≤200:=by omega
     obtain ⟨q,sets,nx,o1,o2⟩:=of_p hR hr hz (by omega) hc
     obtain ⟨low,ok,mt⟩:=wr_match hc o2
     obtain ⟨b,m1,m2⟩:=hM rfl (by omega) hr
     have e5:cm .neq (0:Int) 0=false:=rfl
     have e3:matchB ⟨sets,q.none,q.first,q.last,nx⟩ s=b:=by
      rw [Bool.eq_iff_iff,mt,m2]
     rcases made_of (p:=⟨sets,q.none,q.first,q.last,nx⟩) ok low (N:=N) (by omega) with e | ⟨d,e,hd,hR2,hrun⟩
     · simp only [o1,e,e5,Option.bind_some,_root_.cond_false]
       rfl
     · have e1:=dright_p hd (N:=N) (by omega)
       have e2:=drun_p hd (N:=N) (s:=s) (by omega) (by omega) (by omega)
       rw [hR2] at e1
       rw [hrun,e3] at e2
       have t:conj [b==b]=true:=by cases b<;>rfl
       simp only [o1,e,e5,e1,e2,m1,t,Option.bind_some,_root_.cond_true,_root_.cond_false]
       rfl
theorem dfatexts_p {n:Node} (s:ByteArray) (hz:Lens n):l18_DfaTexts6_g (30*n.size+40000) n s=some true:=by
 obtain ⟨g,hg⟩:=great_p (N:=30*n.size+40000) hz (by omega)
 refine dtexts_law (by omega) hg hz (fun h=>xright_p n.size n (Nat.le_refl _) hz _ (by omega)) fun h h30 hr=>?_
 refine ⟨_,mmatch_p (by omega) hz (by omega),?_⟩
 unfold hits
 rw [hr,Bool.true_and]
 exact Mx.sp_whole hr s.data.toList
end Dq
end Go.Proofs.YtjhbgkakhaonaaaGreatDoor
namespace Go.Proofs.YtjhbgkakhaonaaaGreatDoor
open Go Go.RowKit
open Ab Sh
namespace Gn
theorem r13_Size_w:∀{N:Nat} {p0:Node} {r:Int × Int},r13_Size_g N p0=some r→FunS Tryz.prog 47 [.agg [fI .i64 p0.kind,fI .u64 (p0.set.a.toNat:Int),fI .u64 (p0.set.b.toNat:Int),fI .u64 (p0.set.c.toNat:Int),fI .u64 (p0.set.d.toNat:Int),.t (.slc (rw _ nodeRow p0.kids)),fI .i64 p0.min,fI .i64 p0.max]] (r13_Size_s rw) r:=by
 intro N
 induction N with
 | zero=>intros;rename_i h;exact nomatch (show (none:Option _)=some _ from h)
 | succ N ih=>
 intro p0 r h
 refine fun_w lay_ok Tryz.call47 Tryz.func47 rfl ?_
 intro A W E Q R hE hR hf hQ;rcases W with ⟨ar,cm,conj,cv,sl,sc,ct,sa,ss,ll,_,_,_,_,mi,mx,_,_,_,_,_⟩
 rw [←hR]
 rw [r13_Size_g] at h
 skip
 cbv
 refine L_for hE lay_ok 1 (fun g:Int × Int × Int × Nat=>[(4,fI .i64 g.1),(5,fI .i64 g.2.1),(6,fI .i64 g.2.2.1)]) (fun g=>[]) (fun g=>r13_Size_l1 (r13_Size_g N) p0 g.2.2.2 g.1 g.2.1 g.2.2.1=some r) (fun g=>g.2.2.2) (_,_,_,N) h ?_ ?_
 · (cbv;(try simp only [e_rnil hR]);repeat' (first | exact trivial | exact rfl | exact Or.inr trivial | apply And.intro))
 rintro ⟨v1,v2,v3,m1⟩ h Q1 hN1 hT1 hX1
 have h:r13_Size_l1 (r13_Size_g N) p0 m1 v1 v2 v3=some r:=h
 cases m1 with
 | zero=>exact nomatch (show (none:Option _)=some _ from h)
 | succ m1=>
 rw [r13_Size_l1] at h
 rw [q_ar hE,q_cm hE,q_ll hE,←hR] at h
 cbv
 refine L_if hE h (fun h=>?_) (fun h=>?_)<;>cbv
 · refine L_rowN hE hR h fun r4 h=>?_;cbv
   refine L_call hE hR h (fun _ e=>ih e) (by subst hR;rfl) rfl fun a5 h=>?_;cbv
   refine L_cdJ hE lay_ok h 1 (fun j1:Int=>[(5,fI .i64 j1)]) (fun j1=>[]) (fun j1 h=>?_) (fun j1 h=>?_)<;>cbv
   · refine L_if hE h (fun h=>?_) (fun h=>?_)<;>cbv
     · cases h;(cbv;(try simp only [e_rnil hR]);repeat' (first | exact trivial | exact rfl | exact Or.inr trivial | apply And.intro))
     cases h;(cbv;(try simp only [e_rnil hR]);repeat' (first | exact trivial | exact rfl | exact Or.inr trivial | apply And.intro))
   refine hN1 _ (_,_,_,m1) [] h (Nat.lt_succ_self _) trivial ?_;(cbv;(try simp only [e_rnil hR]);repeat' (first | exact trivial | exact rfl | exact Or.inr trivial | apply And.intro))
 refine hX1 _ _ ?_;cbv
 exact And.left (hQ _ _ _ rfl rfl (by cases h;subst hR;rfl))
end Gn
end Go.Proofs.YtjhbgkakhaonaaaGreatDoor
namespace Go.Proofs.YtjhbgkakhaonaaaGreatDoor
open Go Go.RowKit
open Ab Sh
namespace Gn
theorem l13_Great_w {N:Nat} {p0:Node} {r:Bool} (h:l13_Great_g N p0=some r):FunS Tryz.prog 20 [.agg [fI .i64 p0.kind,fI .u64 (p0.set.a.toNat:Int),fI .u64 (p0.set.b.toNat:Int),fI .u64 (p0.set.c.toNat:Int),fI .u64 (p0.set.d.toNat:Int),.t (.slc (rw _ nodeRow p0.kids)),fI .i64 p0.min,fI .i64 p0.max]] (l13_Great_s rw) r:=by
 refine fun_w lay_ok Tryz.call20 Tryz.func20 rfl ?_
 intro A W E Q R hE hR hf hQ;rcases W with ⟨ar,cm,conj,cv,sl,sc,ct,sa,ss,ll,_,_,_,_,mi,mx,_,_,_,_,_⟩
 rw [←hR]
 unfold l13_Great_g at h
 rw [q_cm hE] at h
 cbv
 refine L_call hE hR h (fun _ e=>r13_Size_w e) (by subst hR;rfl) rfl fun a1 h=>?_;cbv
 refine L_rgJ hE lay_ok h 1 (fun j1:Bool=>[(2,fB j1)]) (fun j1=>[]) (fun j1 h=>?_) (fun j1 h=>?_)<;>cbv
 · refine L_if hE h (fun h=>?_) (fun h=>?_)<;>cbv
   · cases h;(cbv;(try simp only [e_rnil hR]);repeat' (first | exact trivial | exact rfl | exact Or.inr trivial | apply And.intro))
   cases h;(cbv;(try simp only [e_rnil hR]);repeat' (first | exact trivial | exact rfl | exact Or.inr trivial | apply And.intro))
 exact And.left (hQ _ _ _ rfl rfl (by cases h;subst hR;rfl))
theorem spots_Count_w {N:Nat} {p0:Node} {r:Int} (h:spots_Count_g N p0=some r):FunS Tryz.prog 21 [.agg [fI .i64 p0.kind,fI .u64 (p0.set.a.toNat:Int),fI .u64 (p0.set.b.toNat:Int),fI .u64 (p0.set.c.toNat:Int),fI .u64 (p0.set.d.toNat:Int),.t (.slc (rw _ nodeRow p0.kids)),fI .i64 p0.min,fI .i64 p0.max]] (spots_Count_s rw) r:=by
 refine fun_w lay_ok Tryz.call21 Tryz.func21 rfl ?_
 intro A W E Q R hE hR hf hQ;rcases W with ⟨ar,cm,conj,cv,sl,sc,ct,sa,ss,ll,_,_,_,_,mi,mx,_,_,_,_,_⟩
 rw [←hR]
 unfold spots_Count_g at h
 skip
 cbv
 refine L_call hE hR h (fun _ e=>regex_Right_w e) (by subst hR;rfl) rfl fun a1 h=>?_;cbv
 refine L_if hE h (fun h=>?_) (fun h=>?_)<;>cbv
 · exact And.left (hQ _ _ _ rfl rfl (by cases h;subst hR;rfl))
 refine L_call hE hR h (fun _ e=>spots_count_w e) (by subst hR;rfl) rfl fun a2 h=>?_;cbv
 exact And.left (hQ _ _ _ rfl rfl (by cases h;subst hR;rfl))
theorem slices_Clone_159_w {p0:List Bool} {r:List Bool} (h:slices_Clone_159_g p0=some r):FunL Tryz.prog 100 [.t (.slc (rw _ cB p0))] 4 1 (rw _ cB r):=by
 refine list_w lay_ok Tryz.call100 Tryz.func100 rfl ?_
 intro A W E Q R hE hR hf hQ;rcases W with ⟨ar,cm,conj,cv,sl,sc,ct,sa,ss,ll,_,_,_,_,mi,mx,_,_,_,_,_⟩
 rw [←hR]
 unfold slices_Clone_159_g at h
 skip
 cbv
 refine L_nilq hE hR h (fun e=>by subst e;rfl) (fun h=>?_) (fun h=>?_)<;>cbv
 · refine L_t hE ?_;cbv
   exact And.left (hQ _ _ rfl (.inr ⟨rfl,by cases h;rfl⟩))
 refine L_f hE ?_;cbv
 refine L_lit hR (e:=cB) h rfl fun l1 e h=>?_;cbv at e;rw [e];clear e
 refine L_app hE hR h (hf _) (fun _=>rfl) (by decide) fun l2 e h=>?_;cbv at e;rw [e];clear e
 exact And.left (hQ _ _ rfl (.inl ⟨_,rfl,by cases h;subst hR;rfl⟩))
theorem slices_Equal_160_w {N:Nat} {p0:List Bool} {p1:List Bool} {r:Bool} (h:slices_Equal_160_g N p0 p1=some r):FunS Tryz.prog 101 [.t (.slc (rw _ cB p0)),.t (.slc (rw _ cB p1))] (slices_Equal_160_s rw) r:=by
 refine fun_w lay_ok Tryz.call101 Tryz.func101 rfl ?_
 intro A W E Q R hE hR hf hQ;rcases W with ⟨ar,cm,conj,cv,sl,sc,ct,sa,ss,ll,_,_,_,_,mi,mx,_,_,_,_,_⟩
 rw [←hR]
 unfold slices_Equal_160_g at h
 rw [q_cm hE,q_ll hE,←hR] at h
 cbv
 refine L_if hE h (fun h=>?_) (fun h=>?_)<;>cbv
 · exact And.left (hQ _ _ _ rfl rfl (by cases h;subst hR;rfl))
 refine L_for hE lay_ok 0 (fun g:Int × Nat=>[(4,fB false),(13,fI .i64 g.1)]) (fun g=>[]) (fun g=>slices_Equal_160_l1 p0 p1 g.2 g.1=some r) (fun g=>g.2) (_,N) h ?_ ?_
 · (cbv;(try simp only [e_rnil hR]);repeat' (first | exact trivial | exact rfl | exact Or.inr trivial | apply And.intro))
 rintro ⟨v1,m1⟩ h Q1 hN1 hT1 hX1
 have h:slices_Equal_160_l1 p0 p1 m1 v1=some r:=h
 cases m1 with
 | zero=>exact nomatch (show (none:Option _)=some _ from h)
 | succ m1=>
 rw [slices_Equal_160_l1] at h
 rw [q_ar hE,q_cm hE,q_conj hE,q_ll hE,←hR] at h
 cbv
 refine L_if hE h (fun h=>?_) (fun h=>?_)<;>cbv
 · refine L_whole hE lay_ok (by kernel_rfl) (by kernel_rfl) ?_;cbv
   refine L_row hE hR h fun r2 h=>?_;cbv
   refine L_row hE hR h fun r3 h=>?_;cbv
   refine L_if hE h (fun h=>?_) (fun h=>?_)<;>cbv
   · refine hT1 _ ?_
     exact And.left (hQ _ _ _ rfl rfl (by cases h;subst hR;rfl))
   refine hN1 _ (_,m1) [] h (Nat.lt_succ_self _) trivial ?_;(cbv;(try simp only [e_rnil hR]);repeat' (first | exact trivial | exact rfl | exact Or.inr trivial | apply And.intro))
 refine hX1 _ _ ?_;cbv
 exact And.left (hQ _ _ _ rfl rfl (by cases h;subst hR;rfl))
end Gn
end Go.Proofs.YtjhbgkakhaonaaaGreatDoor
