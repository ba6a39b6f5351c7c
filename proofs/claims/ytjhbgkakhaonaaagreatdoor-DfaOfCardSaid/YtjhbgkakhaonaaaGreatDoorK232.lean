/- Texts that the proof leans on. -/
import Derived.Test.YtjhbgkakhaonaaaGreatDoorK231
import Derived.ChangeArms
import Derived.OpenShut
import Derived.DataReads
import Derived.WideShapes
import Derived.Deep.Slices
import Derived.Laws.OwnMore
import Derived.Laws.AppendOwn
import Derived.ProofKit
import Derived.ShutString
import Derived.Carry
import Derived.LaidMore
import Derived.Deep.DeepHandedRow
set_option linter.unusedVariables false
set_option linter.unusedSimpArgs false
set_option maxRecDepth 100000
set_option maxHeartbeats 4000000
namespace Go.Proofs.YtjhbgkakhaonaaaGreatDoor
open Go Go.RowKit
open Ab Sh
namespace Gn
theorem spots_writer_behind_w {N:Nat} {p1:Gspots_part} {p2:Gspots_part} {s0:Gspots_writer} {r:Gspots_part × Gspots_writer} (h:spots_writer_behind_g N p1 p2 s0=some r):HFun Tryz.prog 75 [.ptr 0 0,.agg [.t (.slc (rw _ (cI .i64) p1.first)),.t (.slc (rw _ (cI .i64) p1.last)),fB p1.none],.agg [.t (.slc (rw _ (cI .i64) p2.first)),.t (.slc (rw _ (cI .i64) p2.last)),fB p2.none]] [.box 82 [.lst 1,fB s0.out.None,.t (.slc (rw _ (cI .i64) s0.out.First)),.t (.slc (rw _ (cI .i64) s0.out.Last)),.lst 2],.list 45 4 (rw _ cSet s0.out.Sets),.list 23 1 (rw _ (cLs (cI .i64)) s0.out.Next)] (spots_writer_behind_s rw r) (spots_writer_behind_t rw r):=by
 refine hfun_w lay_ok Tryz.call75 Tryz.func75 rfl [true,false,false] rfl ?_
 intro A W E Q R hE hR hf hQ;rcases W with ⟨ar,cm,conj,cv,sl,sc,ct,sa,ss,ll,_,_,_,_,mi,mx,_,_,_,_,_⟩
 rw [←hR]
 unfold spots_writer_behind_g at h
 skip
 cbv
 refine L_hcall hE hR [0,1,2] [true,false,false] h (fun _ e=>spots_writer_next_w e) rfl rfl rfl rfl (by subst hR;rfl) (by subst hR;rfl) ⟨(hf _ rfl),(hf _ rfl),trivial⟩ fun a1 h=>?_;cbv
 refine L_rg hE lay_ok ?_;cbv
 refine L_if hE h (fun h=>?_) (fun h=>?_)<;>cbv
 · refine L_cd hE lay_ok ?_;cbv
   refine L_if hE h (fun h=>?_) (fun h=>?_)<;>cbv
   · refine L_call hE hR h (fun _ e=>spots_merge_w e) (by subst hR;rfl) rfl fun a2 h=>?_;cbv
     refine L_cdJ hE lay_ok h 7 (fun j1:(List Int)=>[]) (fun j1=>[(6,.box 84 [.t (.slc (R _ (cI .i64) a2)),.t (.slc (R _ (cI .i64) j1)),fB p2.none])]) (fun j1 h=>?_) (fun j1 h=>?_)<;>cbv
     · refine L_if hE h (fun h=>?_) (fun h=>?_)<;>cbv
       · refine L_call hE hR h (fun _ e=>spots_merge_w e) (by subst hR;rfl) rfl fun a3 h=>?_;cbv
         cases h;(cbv;(try simp only [e_rnil hR]);repeat' (first | exact trivial | exact rfl | exact Or.inr trivial | apply And.intro))
       cases h;(cbv;(try simp only [e_rnil hR]);repeat' (first | exact trivial | exact rfl | exact Or.inr trivial | apply And.intro))
     exact And.left (hQ _ _ _ _ rfl rfl rfl (by cases h;subst hR;rfl) (by cases h;subst hR;rfl))
   exact nomatch h
 refine L_cd hE lay_ok ?_;cbv
 refine L_if hE h (fun h=>?_) (fun h=>?_)<;>cbv
 · exact nomatch h
 refine L_cdJ hE lay_ok h 7 (fun j2:(List Int)=>[]) (fun j2=>[(6,.box 84 [.t (.slc (R _ (cI .i64) p1.first)),.t (.slc (R _ (cI .i64) j2)),fB false])]) (fun j2 h=>?_) (fun j2 h=>?_)<;>cbv
 · refine L_if hE h (fun h=>?_) (fun h=>?_)<;>cbv
   · refine L_call hE hR h (fun _ e=>spots_merge_w e) (by subst hR;rfl) rfl fun a4 h=>?_;cbv
     cases h;(cbv;(try simp only [e_rnil hR]);repeat' (first | exact trivial | exact rfl | exact Or.inr trivial | apply And.intro))
   cases h;(cbv;(try simp only [e_rnil hR]);repeat' (first | exact trivial | exact rfl | exact Or.inr trivial | apply And.intro))
 exact And.left (hQ _ _ _ _ rfl rfl rfl (by cases h;subst hR;rfl) (by cases h;subst hR;rfl))
theorem grp_spots_writer_write:∀N:Nat,(∀{p0:Int} {s0:Gspots_writer} {s2:Node} {r:Gspots_part × Gspots_writer},spots_writer_often_1_g N p0 s0 s2=some r→HFun Tryz.prog 91 [fI .i64 p0,.ptr 3 0,.ptr 4 0,.ptr 5 0] [.box 82 [.lst 1,fB s0.out.None,.t (.slc (rw _ (cI .i64) s0.out.First)),.t (.slc (rw _ (cI .i64) s0.out.Last)),.lst 2],.list 45 4 (rw _ cSet s0.out.Sets),.list 23 1 (rw _ (cLs (cI .i64)) s0.out.Next),.box 107 [.ptr 0 0],.box 48 [fI .i64 s2.kind,fI .u64 (s2.set.a.toNat:Int),fI .u64 (s2.set.b.toNat:Int),fI .u64 (s2.set.c.toNat:Int),fI .u64 (s2.set.d.toNat:Int),.t (.slc (rw _ nodeRow s2.kids)),fI .i64 s2.min,fI .i64 s2.max],.box 126 [.fn 91 [.ptr 3 0,.ptr 4 0,.ptr 5 0]]] (spots_writer_often_1_s rw r) (spots_writer_often_1_t s2 rw r))∧
 (∀{p1:Node} {s0:Gspots_writer} {r:Gspots_part × Gspots_writer},spots_writer_often_g N p1 s0=some r→HFun Tryz.prog 74 [.ptr 0 0,.agg [fI .i64 p1.kind,fI .u64 (p1.set.a.toNat:Int),fI .u64 (p1.set.b.toNat:Int),fI .u64 (p1.set.c.toNat:Int),fI .u64 (p1.set.d.toNat:Int),.t (.slc (rw _ nodeRow p1.kids)),fI .i64 p1.min,fI .i64 p1.max]] [.box 82 [.lst 1,fB s0.out.None,.t (.slc (rw _ (cI .i64) s0.out.First)),.t (.slc (rw _ (cI .i64) s0.out.Last)),.lst 2],.list 45 4 (rw _ cSet s0.out.Sets),.list 23 1 (rw _ (cLs (cI .i64)) s0.out.Next)] (spots_writer_often_s rw r) (spots_writer_often_t rw r))∧
 (∀{p1:Node} {s0:Gspots_writer} {r:Gspots_part × Gspots_writer},spots_writer_write_g N p1 s0=some r→HFun Tryz.prog 50 [.ptr 0 0,.agg [fI .i64 p1.kind,fI .u64 (p1.set.a.toNat:Int),fI .u64 (p1.set.b.toNat:Int),fI .u64 (p1.set.c.toNat:Int),fI .u64 (p1.set.d.toNat:Int),.t (.slc (rw _ nodeRow p1.kids)),fI .i64 p1.min,fI .i64 p1.max]] [.box 82 [.lst 1,fB s0.out.None,.t (.slc (rw _ (cI .i64) s0.out.First)),.t (.slc (rw _ (cI .i64) s0.out.Last)),.lst 2],.list 45 4 (rw _ cSet s0.out.Sets),.list 23 1 (rw _ (cLs (cI .i64)) s0.out.Next)] (spots_writer_write_s rw r) (spots_writer_write_t rw r)):=by
 intro N
 induction N with
 | zero=>exact ⟨(fun h=>nomatch (show (none:Option _)=some _ from h)),(fun h=>nomatch (show (none:Option _)=some _ from h)),(fun h=>nomatch (show (none:Option _)=some _ from h))⟩
 | succ N ih=>
 refine ⟨?_,?_,?_⟩
 · intro p0 s0 s2 r h
   refine hfun_w lay_ok Tryz.call91 Tryz.func91 rfl [true,false,false,true,true,true] rfl ?_
   intro A W E Q R hE hR hf hQ;rcases W with ⟨ar,cm,conj,cv,sl,sc,ct,sa,ss,ll,_,_,_,_,mi,mx,_,_,_,_,_⟩
   rw [←hR]
   rw [spots_writer_often_1_g] at h
   rw [q_ar hE,q_cm hE] at h
   cbv
   refine L_if hE h (fun h=>?_) (fun h=>?_)<;>cbv
   · exact And.left (hQ _ _ _ _ rfl rfl rfl (by cases h;subst hR;rfl) (by cases h;subst hR;rfl))
   refine L_hcall hE hR [0,1,2] [true,false,false] h (fun _ e=>(ih.2.2) e) rfl rfl rfl rfl (by subst hR;rfl) (by subst hR;rfl) ⟨(hf _ rfl),(hf _ rfl),trivial⟩ fun a1 h=>?_;cbv
   refine L_fxH hE hR lay_ok (by kernel_rfl) 6 5 [0,1] [none,none,none,some (.box 107 [.ptr 0 0]),none,none,none,some (.box 84 [.t (.slc (R _ (cI .i64) a1.1.first)),.t (.slc (R _ (cI .i64) a1.1.last)),fB a1.1.none])] [0,1,2,3,4,5] [true,false,false,true,true,true] [fI .i64 (ar .sub .i64 p0 1),.ptr 3 0,.ptr 4 0,.ptr 5 0] [.box 82 [.lst 1,fB a1.2.out.None,.t (.slc (R _ (cI .i64) a1.2.out.First)),.t (.slc (R _ (cI .i64) a1.2.out.Last)),.lst 2],.list 45 4 (R _ cSet a1.2.out.Sets),.list 23 1 (R _ (cLs (cI .i64)) a1.2.out.Next),.box 107 [.ptr 0 0],.box 48 [fI .i64 s2.kind,fI .u64 (s2.set.a.toNat:Int),fI .u64 (s2.set.b.toNat:Int),fI .u64 (s2.set.c.toNat:Int),fI .u64 (s2.set.d.toNat:Int),.t (.slc (R _ nodeRow s2.kids)),fI .i64 s2.min,fI .i64 s2.max],.box 126 [.fn 91 [.ptr 3 0,.ptr 4 0,.ptr 5 0]]] h (fun _ e=>(ih.1) e) (by subst hR;rfl) (by subst hR;rfl) rfl rfl rfl ⟨(hf _ rfl),(hf _ rfl),trivial⟩ rfl rfl rfl (by kernel_rfl) (fun _=>by kernel_rfl) (fun _=>by kernel_rfl) (by cbv;repeat' (first | exact rfl | trivial | apply And.intro)) (by cbv;repeat' (first | exact rfl | trivial | apply And.intro)) fun a2 h KK hKK=>?_;cbv
   (repeat' apply And.intro);(try (any_goals (first | exact rfl | trivial)));refine hKK _ ?_;cbv
   refine L_hcall hE hR [0,1,2] [true,false,false] h (fun _ e=>spots_writer_behind_w e) rfl rfl rfl rfl (by subst hR;rfl) (by subst hR;rfl) ⟨(hf _ rfl),(hf _ rfl),trivial⟩ fun a3 h=>?_;cbv
   exact And.left (hQ _ _ _ _ rfl rfl rfl (by cases h;subst hR;rfl) (by cases h;subst hR;rfl))
 · intro p1 s0 r h
   refine hfun_w lay_ok Tryz.call74 Tryz.func74 rfl [true,false,false] rfl ?_
   intro A W E Q R hE hR hf hQ;rcases W with ⟨ar,cm,conj,cv,sl,sc,ct,sa,ss,ll,_,_,_,_,mi,mx,_,_,_,_,_⟩
   rw [←hR]
   rw [spots_writer_often_g] at h
   rw [q_cm hE] at h
   cbv
   refine L_rowN hE hR h fun r1 h=>?_;cbv
   refine L_call hE hR h (fun _ e=>spots_count_w e) (by subst hR;rfl) rfl fun a2 h=>?_;cbv
   refine L_if hE h (fun h=>?_) (fun h=>?_)<;>cbv
   · exact And.left (hQ _ _ _ _ rfl rfl rfl (by cases h;subst hR;rfl) (by cases h;subst hR;rfl))
   refine L_denilB hE 7 0 rfl rfl ?_;cbv
   refine L_denilB hE 7 1 rfl rfl ?_;cbv
   refine L_for hE lay_ok 8 (fun g:Int × Bool ×(List Int)×(List Int)×(List CSet)×(List (List Int))×(List Int)×(List Int)× Bool × Nat=>[(20,fI .i64 g.1)]) (fun g=>[(0,.box 82 [.lst 1,fB g.2.1,.t (.slc (R _ (cI .i64) g.2.2.1)),.t (.slc (R _ (cI .i64) g.2.2.2.1)),.lst 2]),(1,.list 45 4 (R _ cSet g.2.2.2.2.1)),(2,.list 23 1 (R _ (cLs (cI .i64)) g.2.2.2.2.2.1)),(7,.box 84 [.t (.slc (R _ (cI .i64) g.2.2.2.2.2.2.1)),.t (.slc (R _ (cI .i64) g.2.2.2.2.2.2.2.1)),fB g.2.2.2.2.2.2.2.2.1])]) (fun g=>spots_writer_often_l1 (spots_writer_write_g N) (spots_writer_often_1_g N) N p1 r1 g.2.2.2.2.2.2.2.2.2 g.1 g.2.1 g.2.2.1 g.2.2.2.1 g.2.2.2.2.1 g.2.2.2.2.2.1 g.2.2.2.2.2.2.1 g.2.2.2.2.2.2.2.1 g.2.2.2.2.2.2.2.2.1=some r) (fun g=>g.2.2.2.2.2.2.2.2.2) (_,_,_,_,_,_,_,_,_,N) h ?_ ?_
   · (cbv;(try simp only [e_rnil hR]);repeat' (first | exact trivial | exact rfl | exact Or.inr trivial | apply And.intro))
   rintro ⟨v3,v4,v5,v6,v7,v8,v9,v10,v11,m1⟩ h Q1 hN1 hT1 hX1
   have h:spots_writer_often_l1 (spots_writer_write_g N) (spots_writer_often_1_g N) N p1 r1 m1 v3 v4 v5 v6 v7 v8 v9 v10 v11=some r:=h
   cases m1 with
   | zero=>exact nomatch (show (none:Option _)=some _ from h)
   | succ m1=>
   rw [spots_writer_often_l1] at h
   rw [q_ar hE,q_cm hE] at h
   cbv
   refine L_if hE h (fun h=>?_) (fun h=>?_)<;>cbv
   · refine L_fxH hE hR lay_ok (by kernel_rfl) 5 4 [0,1] [none,none,none,some (.box 107 [.ptr 0 0]),none,none,none,some (.box 84 [.t (.slc (R _ (cI .i64) v9)),.t (.slc (R _ (cI .i64) v10)),fB v11])] [0,1,2] [true,false,false] [.ptr 0 0,.agg [fI .i64 r1.kind,fI .u64 (r1.set.a.toNat:Int),fI .u64 (r1.set.b.toNat:Int),fI .u64 (r1.set.c.toNat:Int),fI .u64 (r1.set.d.toNat:Int),.t (.slc (R _ nodeRow r1.kids)),fI .i64 r1.min,fI .i64 r1.max]] [.box 82 [.lst 1,fB (((⟨(⟨v7,v4,v5,v6,v8⟩:GSpots)⟩:Gspots_writer).out).None),.t (.slc (R _ (cI .i64) (((⟨(⟨v7,v4,v5,v6,v8⟩:GSpots)⟩:Gspots_writer).out).First))),.t (.slc (R _ (cI .i64) (((⟨(⟨v7,v4,v5,v6,v8⟩:GSpots)⟩:Gspots_writer).out).Last))),.lst 2],.list 45 4 (R _ cSet (((⟨(⟨v7,v4,v5,v6,v8⟩:GSpots)⟩:Gspots_writer).out).Sets)),.list 23 1 (R _ (cLs (cI .i64)) (((⟨(⟨v7,v4,v5,v6,v8⟩:GSpots)⟩:Gspots_writer).out).Next))] h (fun _ e=>(ih.2.2) e) (by subst hR;rfl) (by subst hR;rfl) rfl rfl rfl ⟨(hf _ rfl),(hf _ rfl),trivial⟩ rfl rfl rfl (by kernel_rfl) (fun _=>by kernel_rfl) (fun _=>by kernel_rfl) (by cbv;repeat' (first | exact rfl | trivial | apply And.intro)) (by cbv;repeat' (first | exact rfl | trivial | apply And.intro)) fun a12 h KK hKK=>?_;cbv
     (repeat' apply And.intro);(try (any_goals (first | exact rfl | trivial)));refine hKK _ ?_;cbv
     refine L_hcall hE hR [0,1,2] [true,false,false] h (fun _ e=>spots_writer_behind_w e) rfl rfl rfl rfl (by subst hR;rfl) (by subst hR;rfl) ⟨(hf _ rfl),(hf _ rfl),trivial⟩ fun a13 h=>?_;cbv
     refine hN1 _ (_,_,_,_,_,_,_,_,_,m1) [] h (Nat.lt_succ_self _) trivial ?_;(cbv;(try simp only [e_rnil hR]);repeat' (first | exact trivial | exact rfl | exact Or.inr trivial | apply And.intro))
   refine hX1 _ _ ?_;cbv
   refine L_if hE h (fun h=>?_) (fun h=>?_)<;>cbv
   · refine L_hcall hE hR [0,1,2] [true,false,false] h (fun _ e=>(ih.2.2) e) rfl rfl rfl rfl (by subst hR;rfl) (by subst hR;rfl) ⟨(hf _ rfl),(hf _ rfl),trivial⟩ fun a14 h=>?_;cbv
     refine L_hcall hE hR [0,1,2] [true,false,false] h (fun _ e=>spots_writer_next_w e) rfl rfl rfl rfl (by subst hR;rfl) (by subst hR;rfl) ⟨(hf _ rfl),(hf _ rfl),trivial⟩ fun a15 h=>?_;cbv
     refine L_hcall hE hR [0,1,2] [true,false,false] h (fun _ e=>spots_writer_behind_w e) rfl rfl rfl rfl (by subst hR;rfl) (by subst hR;rfl) ⟨(hf _ rfl),(hf _ rfl),trivial⟩ fun a16 h=>?_;cbv
     exact And.left (hQ _ _ _ _ rfl rfl rfl (by cases h;subst hR;rfl) (by cases h;subst hR;rfl))
   refine L_fxH hE hR lay_ok (by kernel_rfl) 9 8 [0,1] [none,none,none,some (.box 107 [.ptr 0 0]),none,none,none,some (.box 84 [.t (.slc (R _ (cI .i64) v9)),.t (.slc (R _ (cI .i64) v10)),fB v11])] [0,1,2,3,6,8] [true,false,false,true,true,true] [fI .i64 (ar .sub .i64 p1.max p1.min),.ptr 3 0,.ptr 4 0,.ptr 5 0] [.box 82 [.lst 1,fB (((⟨(⟨v7,v4,v5,v6,v8⟩:GSpots)⟩:Gspots_writer).out).None),.t (.slc (R _ (cI .i64) (((⟨(⟨v7,v4,v5,v6,v8⟩:GSpots)⟩:Gspots_writer).out).First))),.t (.slc (R _ (cI .i64) (((⟨(⟨v7,v4,v5,v6,v8⟩:GSpots)⟩:Gspots_writer).out).Last))),.lst 2],.list 45 4 (R _ cSet (((⟨(⟨v7,v4,v5,v6,v8⟩:GSpots)⟩:Gspots_writer).out).Sets)),.list 23 1 (R _ (cLs (cI .i64)) (((⟨(⟨v7,v4,v5,v6,v8⟩:GSpots)⟩:Gspots_writer).out).Next)),.box 107 [.ptr 0 0],.box 48 [fI .i64 r1.kind,fI .u64 (r1.set.a.toNat:Int),fI .u64 (r1.set.b.toNat:Int),fI .u64 (r1.set.c.toNat:Int),fI .u64 (r1.set.d.toNat:Int),.t (.slc (R _ nodeRow r1.kids)),fI .i64 r1.min,fI .i64 r1.max],.box 126 [.fn 91 [.ptr 3 0,.ptr 4 0,.ptr 5 0]]] h (fun _ e=>(ih.1) e) (by subst hR;rfl) (by subst hR;rfl) rfl rfl rfl ⟨(hf _ rfl),(hf _ rfl),trivial⟩ rfl rfl rfl (by kernel_rfl) (fun _=>by kernel_rfl) (fun _=>by kernel_rfl) (by cbv;repeat' (first | exact rfl | trivial | apply And.intro)) (by cbv;repeat' (first | exact rfl | trivial | apply And.intro)) fun a17 h KK hKK=>?_;cbv
   (repeat' apply And.intro);(try (any_goals (first | exact rfl | trivial)));refine hKK _ ?_;cbv
   refine L_hcall hE hR [0,1,2] [true,false,false] h (fun _ e=>spots_writer_behind_w e) rfl rfl rfl rfl (by subst hR;rfl) (by subst hR;rfl) ⟨(hf _ rfl),(hf _ rfl),trivial⟩ fun a18 h=>?_;cbv
   exact And.left (hQ _ _ _ _ rfl rfl rfl (by cases h;subst hR;rfl) (by cases h;subst hR;rfl))
 · intro p1 s0 r h
   refine hfun_w lay_ok Tryz.call50 Tryz.func50 rfl [true,false,false] rfl ?_
   intro A W E Q R hE hR hf hQ;rcases W with ⟨ar,cm,conj,cv,sl,sc,ct,sa,ss,ll,_,_,_,_,mi,mx,_,_,_,_,_⟩
   rw [←hR]
   rw [spots_writer_write_g] at h
   rw [q_cm hE,q_ll hE,←hR] at h
   cbv
   refine L_if hE h (fun h=>?_) (fun h=>?_)<;>cbv
   · refine L_fxA hE hR lay_ok (by kernel_rfl) 10 9 [0] [] 1 h rfl (hf _ rfl) (fun _=>rfl) rfl rfl rfl (by decide) rfl (by decide) rfl rfl rfl rfl rfl (by kernel_rfl) (fun _=>by kernel_rfl) (fun _=>by kernel_rfl) (by cbv;repeat' (first | exact rfl | trivial | apply And.intro)) (by cbv;repeat' (first | exact rfl | trivial | apply And.intro)) fun l1 h KK hKK=>?_;cbv
     (repeat' apply And.intro);(try (any_goals (first | exact rfl | trivial)));refine hKK _ ?_;cbv
     refine L_appL hE hR h (by subst hR;rfl) (hf _ rfl) (fun _=>rfl) (by decide) fun l2 e h=>?_;cbv at e;rw [e];clear e
     exact And.left (hQ _ _ _ _ rfl rfl rfl (by cases h;subst hR;rfl) (by cases h;subst hR;rfl))
   refine L_if hE h (fun h=>?_) (fun h=>?_)<;>cbv
   · refine L_denilB hE 5 0 rfl rfl ?_;cbv
     refine L_denilB hE 5 1 rfl rfl ?_;cbv
     refine L_for hE lay_ok 6 (fun g:Int × Bool ×(List Int)×(List Int)×(List CSet)×(List (List Int))×(List Int)×(List Int)× Bool × Nat=>[(57,fI .i64 g.1)]) (fun g=>[(0,.box 82 [.lst 1,fB g.2.1,.t (.slc (R _ (cI .i64) g.2.2.1)),.t (.slc (R _ (cI .i64) g.2.2.2.1)),.lst 2]),(1,.list 45 4 (R _ cSet g.2.2.2.2.1)),(2,.list 23 1 (R _ (cLs (cI .i64)) g.2.2.2.2.2.1)),(5,.box 84 [.t (.slc (R _ (cI .i64) g.2.2.2.2.2.2.1)),.t (.slc (R _ (cI .i64) g.2.2.2.2.2.2.2.1)),fB g.2.2.2.2.2.2.2.2.1])]) (fun g=>spots_writer_write_l1 (spots_writer_write_g N) N p1 g.2.2.2.2.2.2.2.2.2 g.1 g.2.1 g.2.2.1 g.2.2.2.1 g.2.2.2.2.1 g.2.2.2.2.2.1 g.2.2.2.2.2.2.1 g.2.2.2.2.2.2.2.1 g.2.2.2.2.2.2.2.2.1=some r) (fun g=>g.2.2.2.2.2.2.2.2.2) (_,_,_,_,_,_,_,_,_,N) h ?_ ?_
     · (cbv;(try simp only [e_rnil hR]);repeat' (first | exact trivial | exact rfl | exact Or.inr trivial | apply And.intro))
     rintro ⟨v3,v4,v5,v6,v7,v8,v9,v10,v11,m1⟩ h Q1 hN1 hT1 hX1
     have h:spots_writer_write_l1 (spots_writer_write_g N) N p1 m1 v3 v4 v5 v6 v7 v8 v9 v10 v11=some r:=h
     cases m1 with
     | zero=>exact nomatch (show (none:Option _)=some _ from h)
     | succ m1=>
     rw [spots_writer_write_l1] at h
     rw [q_ar hE,q_cm hE,q_ll hE,←hR] at h
     cbv
     refine L_if hE h (fun h=>?_) (fun h=>?_)<;>cbv
     · refine L_rowN hE hR h fun r12 h=>?_;cbv
       refine L_hcall hE hR [0,1,2] [true,false,false] h (fun _ e=>(ih.2.2) e) rfl rfl rfl rfl (by subst hR;rfl) (by subst hR;rfl) ⟨(hf _ rfl),(hf _ rfl),trivial⟩ fun a13 h=>?_;cbv
       refine L_tail hE lay_ok (by kernel_rfl) 17 (by kernel_rfl) ?_;cbv
       refine L_pcall hE hR h (fun _ e=>spots_merge_w e) (by subst hR;rfl) rfl fun a14 h=>?_;cbv
       refine L_pcall hE hR h (fun _ e=>spots_merge_w e) (by subst hR;rfl) rfl fun a15 h=>?_;cbv
       refine L_if hE h (fun h=>?_) (fun h=>?_)<;>cbv
       · refine L_if hE h (fun h=>?_) (fun h=>?_)<;>cbv
         · refine L_if hE h (fun h=>?_) (fun h=>?_)<;>cbv
           · refine hN1 _ (_,_,_,_,_,_,_,_,_,m1) [] h (Nat.lt_succ_self _) trivial ?_;(cbv;(try simp only [e_rnil hR]);repeat' (first | exact trivial | exact rfl | exact Or.inr trivial | apply And.intro))
           exact nomatch h
         exact nomatch h
       refine L_if hE h (fun h=>?_) (fun h=>?_)<;>cbv
       · exact nomatch h
       refine L_if hE h (fun h=>?_) (fun h=>?_)<;>cbv
       · exact nomatch h
       refine hN1 _ (_,_,_,_,_,_,_,_,_,m1) [] h (Nat.lt_succ_self _) trivial ?_;(cbv;(try simp only [e_rnil hR]);repeat' (first | exact trivial | exact rfl | exact Or.inr trivial | apply And.intro))
     refine hX1 _ _ ?_;cbv
     exact And.left (hQ _ _ _ _ rfl rfl rfl (by cases h;subst hR;rfl) (by cases h;subst hR;rfl))
   refine L_if hE h (fun h=>?_) (fun h=>?_)<;>cbv
   · refine L_hcall hE hR [0,1,2] [true,false,false] h (fun _ e=>(ih.2.1) e) rfl rfl rfl rfl (by subst hR;rfl) (by subst hR;rfl) ⟨(hf _ rfl),(hf _ rfl),trivial⟩ fun a16 h=>?_;cbv
     exact And.left (hQ _ _ _ _ rfl rfl rfl (by cases h;subst hR;rfl) (by cases h;subst hR;rfl))
   refine L_denilB hE 5 0 rfl rfl ?_;cbv
   refine L_denilB hE 5 1 rfl rfl ?_;cbv
   refine L_for hE lay_ok 6 (fun g:Int × Bool ×(List Int)×(List Int)×(List CSet)×(List (List Int))×(List Int)×(List Int)× Bool × Nat=>[(92,fI .i64 g.1)]) (fun g=>[(0,.box 82 [.lst 1,fB g.2.1,.t (.slc (R _ (cI .i64) g.2.2.1)),.t (.slc (R _ (cI .i64) g.2.2.2.1)),.lst 2]),(1,.list 45 4 (R _ cSet g.2.2.2.2.1)),(2,.list 23 1 (R _ (cLs (cI .i64)) g.2.2.2.2.2.1)),(5,.box 84 [.t (.slc (R _ (cI .i64) g.2.2.2.2.2.2.1)),.t (.slc (R _ (cI .i64) g.2.2.2.2.2.2.2.1)),fB g.2.2.2.2.2.2.2.2.1])]) (fun g=>spots_writer_write_l2 (spots_writer_write_g N) N p1 g.2.2.2.2.2.2.2.2.2 g.1 g.2.1 g.2.2.1 g.2.2.2.1 g.2.2.2.2.1 g.2.2.2.2.2.1 g.2.2.2.2.2.2.1 g.2.2.2.2.2.2.2.1 g.2.2.2.2.2.2.2.2.1=some r) (fun g=>g.2.2.2.2.2.2.2.2.2) (_,_,_,_,_,_,_,_,_,N) h ?_ ?_
   · (cbv;(try simp only [e_rnil hR]);repeat' (first | exact trivial | exact rfl | exact Or.inr trivial | apply And.intro))
   rintro ⟨v17,v18,v19,v20,v21,v22,v23,v24,v25,m2⟩ h Q2 hN2 hT2 hX2
   have h:spots_writer_write_l2 (spots_writer_write_g N) N p1 m2 v17 v18 v19 v20 v21 v22 v23 v24 v25=some r:=h
   cases m2 with
   | zero=>exact nomatch (show (none:Option _)=some _ from h)
   | succ m2=>
   rw [spots_writer_write_l2] at h
   rw [q_ar hE,q_cm hE,q_ll hE,←hR] at h
   cbv
   refine L_if hE h (fun h=>?_) (fun h=>?_)<;>cbv
   · refine L_rowN hE hR h fun r26 h=>?_;cbv
     refine L_fxH hE hR lay_ok (by kernel_rfl) 5 4 [0,1] [none,none,none,none,none,some (.box 84 [.t (.slc (R _ (cI .i64) v23)),.t (.slc (R _ (cI .i64) v24)),fB v25])] [0,1,2] [true,false,false] [.ptr 0 0,.agg [fI .i64 r26.kind,fI .u64 (r26.set.a.toNat:Int),fI .u64 (r26.set.b.toNat:Int),fI .u64 (r26.set.c.toNat:Int),fI .u64 (r26.set.d.toNat:Int),.t (.slc (R _ nodeRow r26.kids)),fI .i64 r26.min,fI .i64 r26.max]] [.box 82 [.lst 1,fB (((⟨(⟨v21,v18,v19,v20,v22⟩:GSpots)⟩:Gspots_writer).out).None),.t (.slc (R _ (cI .i64) (((⟨(⟨v21,v18,v19,v20,v22⟩:GSpots)⟩:Gspots_writer).out).First))),.t (.slc (R _ (cI .i64) (((⟨(⟨v21,v18,v19,v20,v22⟩:GSpots)⟩:Gspots_writer).out).Last))),.lst 2],.list 45 4 (R _ cSet (((⟨(⟨v21,v18,v19,v20,v22⟩:GSpots)⟩:Gspots_writer).out).Sets)),.list 23 1 (R _ (cLs (cI .i64)) (((⟨(⟨v21,v18,v19,v20,v22⟩:GSpots)⟩:Gspots_writer).out).Next))] h (fun _ e=>(ih.2.2) e) (by subst hR;rfl) (by subst hR;rfl) rfl rfl rfl ⟨(hf _ rfl),(hf _ rfl),trivial⟩ rfl rfl rfl (by kernel_rfl) (fun _=>by kernel_rfl) (fun _=>by kernel_rfl) (by cbv;repeat' (first | exact rfl | trivial | apply And.intro)) (by cbv;repeat' (first | exact rfl | trivial | apply And.intro)) fun a27 h KK hKK=>?_;cbv
     (repeat' apply And.intro);(try (any_goals (first | exact rfl | trivial)));refine hKK _ ?_;cbv
     refine L_hcall hE hR [0,1,2] [true,false,false] h (fun _ e=>spots_writer_behind_w e) rfl rfl rfl rfl (by subst hR;rfl) (by subst hR;rfl) ⟨(hf _ rfl),(hf _ rfl),trivial⟩ fun a28 h=>?_;cbv
     refine hN2 _ (_,_,_,_,_,_,_,_,_,m2) [] h (Nat.lt_succ_self _) trivial ?_;(cbv;(try simp only [e_rnil hR]);repeat' (first | exact trivial | exact rfl | exact Or.inr trivial | apply And.intro))
   refine hX2 _ _ ?_;cbv
   exact And.left (hQ _ _ _ _ rfl rfl rfl (by cases h;subst hR;rfl) (by cases h;subst hR;rfl))
theorem spots_writer_write_w {N:Nat}:∀{p1:Node} {s0:Gspots_writer} {r:Gspots_part × Gspots_writer},spots_writer_write_g N p1 s0=some r→HFun Tryz.prog 50 [.ptr 0 0,.agg [fI .i64 p1.kind,fI .u64 (p1.set.a.toNat:Int),fI .u64 (p1.set.b.toNat:Int),fI .u64 (p1.set.c.toNat:Int),fI .u64 (p1.set.d.toNat:Int),.t (.slc (rw _ nodeRow p1.kids)),fI .i64 p1.min,fI .i64 p1.max]] [.box 82 [.lst 1,fB s0.out.None,.t (.slc (rw _ (cI .i64) s0.out.First)),.t (.slc (rw _ (cI .i64) s0.out.Last)),.lst 2],.list 45 4 (rw _ cSet s0.out.Sets),.list 23 1 (rw _ (cLs (cI .i64)) s0.out.Next)] (spots_writer_write_s rw r) (spots_writer_write_t rw r):=(grp_spots_writer_write N).2.2
end Gn
end Go.Proofs.YtjhbgkakhaonaaaGreatDoor
namespace Go.Proofs.YtjhbgkakhaonaaaGreatDoor
open Go Go.RowKit
open Ab Sh
namespace Gn
theorem slices_CloneI_w {p0:List Int} {r:List Int} (h:slices_CloneI_g p0=some r):FunS Tryz.prog 51 [.t (.slc (rw _ (cI .i64) p0))] (slices_CloneI_s rw) r:=by
 refine fun_w lay_ok Tryz.call51 Tryz.func51 rfl ?_
 intro A W E Q R hE hR hf hQ;rcases W with ⟨ar,cm,conj,cv,sl,sc,ct,sa,ss,ll,_,_,_,_,mi,mx,_,_,_,_,_⟩
 rw [←hR]
 unfold slices_CloneI_g at h
 skip
 cbv
 refine L_nilq hE hR h (fun e=>by subst e;rfl) (fun h=>?_) (fun h=>?_)<;>cbv
 · refine L_t hE ?_;cbv
   exact And.left (hQ _ _ _ rfl rfl (by cases h;subst hR;rfl))
 refine L_f hE ?_;cbv
 refine L_lit hR (e:=(cI .i64)) h rfl fun l1 e h=>?_;cbv at e;rw [e];clear e
 refine L_app hE hR h (hf _) (fun _=>rfl) (by decide) fun l2 e h=>?_;cbv at e;rw [e];clear e
 exact And.left (hQ _ _ _ rfl rfl (by cases h;subst hR;rfl))
theorem spots_Of_w {N:Nat} {p0:Node} {r:GSpots × Int} (h:spots_Of_g N p0=some r):FunS Tryz.prog 22 [.agg [fI .i64 p0.kind,fI .u64 (p0.set.a.toNat:Int),fI .u64 (p0.set.b.toNat:Int),fI .u64 (p0.set.c.toNat:Int),fI .u64 (p0.set.d.toNat:Int),.t (.slc (rw _ nodeRow p0.kids)),fI .i64 p0.min,fI .i64 p0.max]] (spots_Of_s rw) r:=by
 refine fun_w lay_ok Tryz.call22 Tryz.func22 rfl ?_
 intro A W E Q R hE hR hf hQ;rcases W with ⟨ar,cm,conj,cv,sl,sc,ct,sa,ss,ll,_,_,_,_,mi,mx,_,_,_,_,_⟩
 rw [←hR]
 unfold spots_Of_g at h
 rw [q_cm hE] at h
 cbv
 refine L_call hE hR h (fun _ e=>regex_Right_w e) (by subst hR;rfl) rfl fun a1 h=>?_;cbv
 refine L_if hE h (fun h=>?_) (fun h=>?_)<;>cbv
 · exact And.left (hQ _ _ _ rfl rfl (by cases h;subst hR;rfl))
 refine L_call hE hR h (fun _ e=>spots_count_w e) (by subst hR;rfl) rfl fun a2 h=>?_;cbv
 refine L_if hE h (fun h=>?_) (fun h=>?_)<;>cbv
 · exact And.left (hQ _ _ _ rfl rfl (by cases h;subst hR;rfl))
 refine L_opn hE 2 0 45 4 rfl rfl ?_;cbv
 refine L_opn hE 2 4 23 1 rfl rfl ?_;cbv
 refine L_hcall hE hR [2,3,4] [true,false,false] h (fun _ e=>spots_writer_write_w e) rfl rfl rfl rfl (by subst hR;rfl) (by subst hR;rfl) ⟨(hf _),(hf _),trivial⟩ fun a3 h=>?_;cbv
 obtain ⟨a4,ea4,h⟩:=conv_some h
 obtain ⟨a5,ea5,h⟩:=conv_some h
 refine L_fxS hE lay_ok (by kernel_rfl) 14 [(10,2,2,[.t (.slc (R _ (cI .i64) a4))]),(13,2,3,[.t (.slc (R _ (cI .i64) a5))])] [6,7,11,12] [none,none,none,none,none,some (.box 84 [.t (.slc (R _ (cI .i64) a3.1.first)),.t (.slc (R _ (cI .i64) a3.1.last)),fB a3.1.none])] (by kernel_rfl) (by kernel_rfl) (by kernel_rfl) (by kernel_rfl) (by cbv;repeat' (first | exact rfl | trivial | apply And.intro)) (by cbv;repeat' (first | exact rfl | trivial | apply And.intro)) fun KK hKK=>?_;cbv
 refine L_pcall hE hR (X:=some) (by rw [ea4];rfl) (fun _ e=>slices_CloneI_w e) (by subst hR;rfl) rfl fun _ hx=>?_;cases hx;cbv
 refine L_pcall hE hR (X:=some) (by rw [ea5];rfl) (fun _ e=>slices_CloneI_w e) (by subst hR;rfl) rfl fun _ hx=>?_;cases hx;cbv
 (repeat' apply And.intro);(try (any_goals (first | exact rfl | trivial)));refine hKK _ ?_;cbv
 exact And.left (hQ _ _ _ rfl rfl (by cases h;subst hR;rfl))
theorem l18_works_w {N:Nat} {r:Bool} (h:l18_works_g N=some r):FunS Tryz.prog 8 [] (l18_works_s rw) r:=by
 refine fun_w lay_ok Tryz.call8 Tryz.func8 rfl ?_
 intro A W E Q R hE hR hf hQ;rcases W with ⟨ar,cm,conj,cv,sl,sc,ct,sa,ss,ll,_,_,_,_,mi,mx,_,_,_,_,_⟩
 unfold l18_works_g at h
 rw [q_cm hE,q_conj hE,q_ll hE,←hR] at h
 cbv
 refine L_call hE hR h (fun _ e=>regex_Parse_w e) rfl rfl fun a1 h=>?_;cbv
 refine L_call hE hR h (fun _ e=>spots_Of_w e) (by subst hR;rfl) rfl fun a2 h=>?_;cbv
 refine L_call hE hR h (fun _ e=>dfa_Of_w e) (by subst hR;rfl) rfl fun a3 h=>?_;cbv
 refine L_call hE hR h (fun _ e=>dfa_Word_w e) rfl rfl fun a4 h=>?_;cbv
 refine L_rgJ hE lay_ok h 5 (fun j1:Bool=>[(0,fB j1)]) (fun j1=>[]) (fun j1 h=>?_) (fun j1 h=>?_)<;>cbv
 · refine L_if hE h (fun h=>?_) (fun h=>?_)<;>cbv
   · refine L_if hE h (fun h=>?_) (fun h=>?_)<;>cbv
     · refine L_if hE h (fun h=>?_) (fun h=>?_)<;>cbv
       · refine L_if hE h (fun h=>?_) (fun h=>?_)<;>cbv
         · refine L_call hE hR h (fun _ e=>dfa_Run_w e) (by subst hR;rfl) rfl fun a5 h=>?_;cbv
           refine L_if hE h (fun h=>?_) (fun h=>?_)<;>cbv
           · refine L_call hE hR h (fun _ e=>dfa_Run_w e) (by subst hR;rfl) rfl fun a6 h=>?_;cbv
             refine L_if hE h (fun h=>?_) (fun h=>?_)<;>cbv
             · refine L_call hE hR h (fun _ e=>dfa_Run_w e) (by subst hR;rfl) rfl fun a7 h=>?_;cbv
               refine L_if hE h (fun h=>?_) (fun h=>?_)<;>cbv
               · refine L_if hE h (fun h=>?_) (fun h=>?_)<;>cbv
                 · refine L_call hE hR h (fun _ e=>dfa_Run_w e) (by subst hR;rfl) rfl fun a8 h=>?_;cbv
                   refine L_if hE h (fun h=>?_) (fun h=>?_)<;>cbv
                   · refine L_call hE hR h (fun _ e=>dfa_Run_w e) (by subst hR;rfl) rfl fun a9 h=>?_;cbv
                     cases h;(cbv;(try simp only [e_rnil hR]);repeat' (first | exact trivial | exact rfl | exact Or.inr trivial | apply And.intro))
                   cases h;(cbv;(try simp only [e_rnil hR]);repeat' (first | exact trivial | exact rfl | exact Or.inr trivial | apply And.intro))
                 cases h;(cbv;(try simp only [e_rnil hR]);repeat' (first | exact trivial | exact rfl | exact Or.inr trivial | apply And.intro))
               cases h;(cbv;(try simp only [e_rnil hR]);repeat' (first | exact trivial | exact rfl | exact Or.inr trivial | apply And.intro))
             cases h;(cbv;(try simp only [e_rnil hR]);repeat' (first | exact trivial | exact rfl | exact Or.inr trivial | apply And.intro))
           cases h;(cbv;(try simp only [e_rnil hR]);repeat' (first | exact trivial | exact rfl | exact Or.inr trivial | apply And.intro))
         cases h;(cbv;(try simp only [e_rnil hR]);repeat' (first | exact trivial | exact rfl | exact Or.inr trivial | apply And.intro))
       cases h;(cbv;(try simp only [e_rnil hR]);repeat' (first | exact trivial | exact rfl | exact Or.inr trivial | apply And.intro))
     cases h;(cbv;(try simp only [e_rnil hR]);repeat' (first | exact trivial | exact rfl | exact Or.inr trivial | apply And.intro))
   cases h;(cbv;(try simp only [e_rnil hR]);repeat' (first | exact trivial | exact rfl | exact Or.inr trivial | apply And.intro))
 exact And.left (hQ _ _ _ rfl rfl (by cases h;subst hR;rfl))
end Gn
end Go.Proofs.YtjhbgkakhaonaaaGreatDoor
namespace Go.Proofs.YtjhbgkakhaonaaaGreatDoor
open Go Go.RowKit Go.ChangeShapes Go.WideShapes
section
variable {α:Type}
def Kept (G:Nat→Prop) (w w':World):Prop:=∀b,G b→w'.heap[b]?=w.heap[b]?
theorem Kept.cell {G:Nat→Prop} {w w':World} (h:Kept G w w') {b:Nat} (hb:G b) (o:Nat):w'.cell? ⟨b,o,none⟩=w.cell? ⟨b,o,none⟩:=World.cell?_of_block (h b hb)
end
end Go.Proofs.YtjhbgkakhaonaaaGreatDoor
namespace Go.Proofs.YtjhbgkakhaonaaaGreatDoor
open Go Go.RowKit Go.ChangeShapes Go.WideShapes
open Ab
namespace Op2
def CRep (G:Nat→Prop) (w:World) (ts:List T) (cs:List Value):Prop:=cs.length=ts.length∧∀(j:Nat) t u,ts[j]?=some t→cs[j]?=some u→TRep G w t u
theorem crep_cons {G:Nat→Prop} {w:World} {t:T} {u:Value} {ts:List T} {cs:List Value} (h:TRep G w t u) (hr:CRep G w ts cs):CRep G w (t::ts) (u::cs):=by
 refine ⟨by simp [hr.1],fun j a b h1 h2=>?_⟩
 cases j with
 | zero=>simp at h1 h2;subst h1;subst h2;exact h
 | succ j=>exact hr.2 j a b (by simpa using h1) (by simpa using h2)
theorem crep_app {G:Nat→Prop} {w:World}:∀{ts us:List T} {cs ds:List Value},CRep G w ts cs→CRep G w us ds→CRep G w (ts++us) (cs++ds)
 | [],us,[],ds,_,h=>h
 | [],us,c::cs,ds,h,_=>by have:=h.1;simp at this
 | t::ts,us,[],ds,h,_=>by have:=h.1;simp at this
 | t::ts,us,c::cs,ds,h,g=>crep_cons (h.2 0 t c rfl rfl) (crep_app ⟨by have:=h.1;simpa using this,fun j a b h1 h2=>h.2 (j+1) a b (by simpa using h1) (by simpa using h2)⟩ g)
section
variable {H:Type} {enc:TypeId × Value→H} {P:Program} {W:World} {sp:Nat→Bool} {held:Bool} {fuel:Nat} {x:DataW H × List MemPlace}
theorem fld {fs:Array Field} {n:Nat} {cs:List Value} {xs:List (DataW H × List MemPlace)} (hl:xs.length=fs.size)
 (hf:∀(i:Nat) (f:Field),fs[i]?=some f→DataW.trod enc P W 0 sp held n f.type ((cs.drop f.offset).take (P.cellsOf f.type))=xs[i]?) (i:Nat) (f:Field) (h:fs[i]?=some f):
 ∃y,DataW.trod enc P W 0 sp held n f.type ((cs.drop f.offset).take (P.cellsOf f.type))=some y:=by
 have:=hf i f h
 obtain ⟨hi,-⟩:=Array.getElem?_eq_some_iff.1 h
 rw [List.getElem?_eq_getElem (by omega)] at this
 exact ⟨_,this⟩
theorem part {G:Nat→Prop} {cs:List Value} {o s:Nat} {ts us:List T} (h:CRep G W ts ((cs.drop o).take s)) (hr:CRep G W us (cs.drop (o+s))):CRep G W (ts++us) (cs.drop o):=by
 have e:cs.drop o=(cs.drop o).take s++cs.drop (o+s):=by rw [←List.drop_drop,List.take_append_drop]
 rw [e]
 exact crep_app h hr
end
theorem vr_nil {cx:Cx} {w:World}:VReps cx w [] ⟨[]⟩:=⟨rfl,fun i c u h=>by simp at h⟩
theorem vr_cons {cx:Cx} {w:World} {a:V} {av:List V} {y:Value} {ys:List Value} (h:VRep cx w a y) (hr:VReps cx w av ⟨ys⟩):VReps cx w (a::av) ⟨y::ys⟩:=
 ⟨by have:=hr.1;simp at this ⊢;exact this,fun i c u h1 h2=>by
  cases i with
  | zero=>simp at h1 h2;subst h1;subst h2;exact h
  | succ i=>exact hr.2 i c u (by simpa using h1) (by simpa using h2)⟩
end Op2
end Go.Proofs.YtjhbgkakhaonaaaGreatDoor
namespace Go.Proofs.YtjhbgkakhaonaaaGreatDoor
open Go Go.RowKit Go.ChangeShapes Go.WideShapes
open Ab
namespace Op2
variable {H:Type} {enc:TypeId × Value→H} {P:Program} {W:World} {sp:Nat→Bool} {held:Bool} {fuel:Nat} {x:DataW H × List MemPlace}
theorem len1 {t e:TypeId} {cs:List Value} (ht:P.underlying t=some (.slice e)) (h:DataW.trod enc P W 0 sp held fuel t cs=some x):cs.length=1:=by
 rcases DataW.trod_slice ht h with ⟨e5,-⟩ | ⟨a,len,cap,elems,rest,n,-,e5,-⟩<;>rw [e5]<;>rfl
end Op2
end Go.Proofs.YtjhbgkakhaonaaaGreatDoor
namespace Go.Proofs.YtjhbgkakhaonaaaGreatDoor
open Go Go.ChangeShapes Go.WideShapes Go.ChangeAt Go.RowKit
section
variable {H:Type} {enc:TypeId × Value→H} {P:Program} {W W':World}
theorem below_all (hl:laidOutB P=true) (hb:Below W.heap.size W W'):∀(ts:List TypeId) (vs:List Value) (ds:List (DataW H)) (ps:List MemPlace),
 (ts.all fun t=>P.readableRec t&&decide (t<P.types.size))=true→DataW.TrodAll enc P W 0 (fun _=>true) true ts vs ds ps→(∀x∈ps,x.block<W.heap.size)→
 DataW.TrodAll enc P W' 0 (fun b=>decide (b<W.heap.size)) true ts vs ds ps
 | [],vs,ds,ps,_,h,_=>by
   obtain ⟨rfl,rfl,rfl⟩:=trodAll_nil h
   exact trodAll_mk0
 | t::ts,vs,ds,ps,hr,h,hlt=>by
   obtain ⟨v,vs',d,ds',p,q,rfl,rfl,rfl,h0,r0⟩:=trodAll_cons h
   simp only [List.all_cons,Bool.and_eq_true,decide_eq_true_eq] at hr
   exact trodAll_cons_mk (Below.trod hl hr.1.1 hr.1.2 h0 hb (fun x hx=>hlt x (List.mem_append_left _ hx)))
    (below_all hl hb ts vs' ds' q (by simpa using hr.2) r0 (fun x hx=>hlt x (List.mem_append_right _ hx)))
theorem law_post {s:ChangeSpec} {f:Func} {args:Array Value} {ds gs:List (DataW H)} {before:List MemPlace} {t:TypeId} (hl:laidOutB P=true)
 (hr:(f.params.toList.all fun t=>P.readableRec t&&decide (t<P.types.size))=true) (hres:f.resultTypes=#[t]) (ht:P.underlying t=some .bool)
 (hv:s.vars=[]) (hfn:s.fn H (ds++gs)={results:=[.lit (.bool true)],args:=ds})
 (hW:DataW.Whole enc P f.params.toList s.vars false W args.toList ds gs before) (hb:Below W.heap.size W W'):s.post enc P f false true false false W args (.bool true) W':=by
 have hW':=hW
 have hlt:=hW.lt
 obtain ⟨p,q,hA,hV,rfl,_,_⟩:=hW
 refine ⟨ds,gs,_,[],p,[],hW',?_,?_,?_,hb.frame _,fun h=>by cases h⟩
 · rw [hfn,hres]
   exact trodAll_mk1 (shut_bool ht _)
 · rw [hfn]
   exact below_all hl hb _ _ _ _ hr hA (fun x hx=>by simpa using hlt x (List.mem_append_left _ hx))
 · rw [hfn,hv]
   exact rfl
end
def flatD:DataW Unit→List Value
 | .lit (.int k n)=>[.int k n]
 | .lit (.string s)=>[.string ⟨s.toArray⟩]
 | .agg ps=>flatDs ps
 | _=>[]
 where flatDs:List (DataW Unit)→List Value
 | []=>[]
 | d::r=>flatD d++flatDs r
end Go.Proofs.YtjhbgkakhaonaaaGreatDoor
