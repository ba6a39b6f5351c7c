/- Texts that the proof leans on. -/
import Derived.Test.YtbpihhelojjedaaDoorK330
import Derived.Test.YtbpihhelojjedaaDoorK323
set_option linter.unusedVariables false
set_option linter.unusedSimpArgs false
set_option maxRecDepth 100000
set_option maxHeartbeats 4000000
namespace Go.Proofs.YtbpihhelojjedaaDoor
open Go Go.RowKit
open Ab Sh
namespace Gn
theorem slices_CloneI_w {p0:List Int} {r:List Int} (h:slices_CloneI_g p0=some r):FunS Tryd.prog 35 [.t (.slc (rw _ (cI .i64) p0))] (slices_CloneI_s rw) r:=by
 refine fun_w lay_ok Tryd.call35 Tryd.func35 rfl ?_
 intro A W E Q R hE hR hf hQ;rcases W with ⟨ar,cm,conj,cv,sl,sc,ct,sa,ss,ll,_,_,_,_,mi,mx,_,_,_⟩
 rw [←hR]
 unfold slices_CloneI_g at h
 skip
 cbv
 refine L_nilq hE hR h (fun e=>by subst e;rfl) (fun h=>?_) (fun h=>?_)<;>cbv
 · refine L_t hE ?_;cbv
   exact And.left (hQ _ _ _ rfl rfl (by cases h;subst hR;rfl))
 refine L_f hE ?_;cbv
 refine L_lit hR (e:=(cI .i64)) h rfl fun l1 e h=>?_;cbv at e;rw [e];clear e
 refine L_app hE hR h (hf _) (fun _=>rfl) (by decide) fun l2 e h=>?_;cbv at e;rw [e];clear e
 exact And.left (hQ _ _ _ rfl rfl (by cases h;subst hR;rfl))
theorem spots_Of_w {N:Nat} {p0:Node} {r:GSpots × Int} (h:spots_Of_g N p0=some r):FunS Tryd.prog 14 [.agg [fI .i64 p0.kind,fI .u64 (p0.set.a.toNat:Int),fI .u64 (p0.set.b.toNat:Int),fI .u64 (p0.set.c.toNat:Int),fI .u64 (p0.set.d.toNat:Int),.t (.slc (rw _ nodeRow p0.kids)),fI .i64 p0.min,fI .i64 p0.max]] (spots_Of_s rw) r:=by
 refine fun_w lay_ok Tryd.call14 Tryd.func14 rfl ?_
 intro A W E Q R hE hR hf hQ;rcases W with ⟨ar,cm,conj,cv,sl,sc,ct,sa,ss,ll,_,_,_,_,mi,mx,_,_,_⟩
 rw [←hR]
 unfold spots_Of_g at h
 rw [q_cm hE] at h
 cbv
 refine L_call hE hR h (fun _ e=>regex_Right_w e) (by subst hR;rfl) rfl fun a1 h=>?_;cbv
 refine L_if hE h (fun h=>?_) (fun h=>?_)<;>cbv
 · exact And.left (hQ _ _ _ rfl rfl (by cases h;subst hR;rfl))
 refine L_call hE hR h (fun _ e=>spots_count_w e) (by subst hR;rfl) rfl fun a2 h=>?_;cbv
 refine L_if hE h (fun h=>?_) (fun h=>?_)<;>cbv
 · exact And.left (hQ _ _ _ rfl rfl (by cases h;subst hR;rfl))
 refine L_opn hE 2 0 32 4 rfl rfl ?_;cbv
 refine L_opn hE 2 4 23 1 rfl rfl ?_;cbv
 refine L_hcall hE hR [2,3,4] [true,false,false] h (fun _ e=>spots_writer_write_w e) rfl rfl rfl rfl (by subst hR;rfl) (by subst hR;rfl) ⟨(hf _),(hf _),trivial⟩ fun a3 h=>?_;cbv
 obtain ⟨a4,ea4,h⟩:=conv_some h
 obtain ⟨a5,ea5,h⟩:=conv_some h
 refine L_fxS hE lay_ok (by kernel_rfl) 14 [(10,2,2,[.t (.slc (R _ (cI .i64) a4))]),(13,2,3,[.t (.slc (R _ (cI .i64) a5))])] [6,7,11,12] [none,none,none,none,none,some (.box 61 [.t (.slc (R _ (cI .i64) a3.1.first)),.t (.slc (R _ (cI .i64) a3.1.last)),fB a3.1.none])] (by kernel_rfl) (by kernel_rfl) (by kernel_rfl) (by kernel_rfl) (by cbv;repeat' (first | exact rfl | trivial | apply And.intro)) (by cbv;repeat' (first | exact rfl | trivial | apply And.intro)) fun KK hKK=>?_;cbv
 refine L_pcall hE hR (X:=some) (by rw [ea4];rfl) (fun _ e=>slices_CloneI_w e) (by subst hR;rfl) rfl fun _ hx=>?_;cases hx;cbv
 refine L_pcall hE hR (X:=some) (by rw [ea5];rfl) (fun _ e=>slices_CloneI_w e) (by subst hR;rfl) rfl fun _ hx=>?_;cases hx;cbv
 (repeat' apply And.intro);(try (any_goals (first | exact rfl | trivial)));refine hKK _ ?_;cbv
 exact And.left (hQ _ _ _ rfl rfl (by cases h;subst hR;rfl))
theorem l16_works_w {N :Nat} {r:Bool} (h:l16_works_g N=some r):FunS Tryd.prog 6 [] (l16_works_s rw) r:=by
 refine fun_w lay_ok Tryd.call6 Tryd.func6 rfl ?_
 intro A W E Q R hE hR hf hQ;rcases W with ⟨ar,cm,conj,cv,sl,sc,ct,sa,ss,ll,_,_,_,_,mi,mx,_,_,_⟩
 unfold l16_works_g at h
 rw [q_cm hE,q_conj hE,q_ll hE,←hR] at h
 cbv
 refine L_call hE hR h (fun _ e=>regex_Parse_w e) rfl rfl fun a1 h=>?_;cbv
 refine L_call hE hR h (fun _ e=>spots_Of_w e) (by subst hR;rfl) rfl fun a2 h=>?_;cbv
 refine L_rgJ hE lay_ok h 3 (fun j1:Bool=>[(0,fB j1)]) (fun j1=>[]) (fun j1 h=>?_) (fun j1 h=>?_)<;>cbv
 · refine L_if hE h (fun h=>?_) (fun h=>?_)<;>cbv
   · refine L_if hE h (fun h=>?_) (fun h=>?_)<;>cbv
     · refine L_if hE h (fun h=>?_) (fun h=>?_)<;>cbv
       · refine L_if hE h (fun h=>?_) (fun h=>?_)<;>cbv
         · refine L_if hE h (fun h=>?_) (fun h=>?_)<;>cbv
           · refine L_if hE h (fun h=>?_) (fun h=>?_)<;>cbv
             · refine L_if hE h (fun h=>?_) (fun h=>?_)<;>cbv
               · refine L_rowL hE hR h fun r3 h=>?_;cbv
                 refine L_if hE h (fun h=>?_) (fun h=>?_)<;>cbv
                 · refine L_rowL hE hR h fun r4 h=>?_;cbv
                   refine L_row hE hR h fun r5 h=>?_;cbv
                   refine L_if hE h (fun h=>?_) (fun h=>?_)<;>cbv
                   · refine L_call hE hR h (fun _ e=>spots_Match_w e) (by subst hR;rfl) rfl fun a6 h=>?_;cbv
                     refine L_if hE h (fun h=>?_) (fun h=>?_)<;>cbv
                     · refine L_call hE hR h (fun _ e=>spots_Match_w e) (by subst hR;rfl) rfl fun a7 h=>?_;cbv
                       cases h;(cbv;(try simp only [e_rnil hR]);repeat' (first | exact trivial | exact rfl | exact Or.inr trivial | apply And.intro))
                     cases h;(cbv;(try simp only [e_rnil hR]);repeat' (first | exact trivial | exact rfl | exact Or.inr trivial | apply And.intro))
                   cases h;(cbv;(try simp only [e_rnil hR]);repeat' (first | exact trivial | exact rfl | exact Or.inr trivial | apply And.intro))
                 cases h;(cbv;(try simp only [e_rnil hR]);repeat' (first | exact trivial | exact rfl | exact Or.inr trivial | apply And.intro))
               cases h;(cbv;(try simp only [e_rnil hR]);repeat' (first | exact trivial | exact rfl | exact Or.inr trivial | apply And.intro))
             cases h;(cbv;(try simp only [e_rnil hR]);repeat' (first | exact trivial | exact rfl | exact Or.inr trivial | apply And.intro))
           cases h;(cbv;(try simp only [e_rnil hR]);repeat' (first | exact trivial | exact rfl | exact Or.inr trivial | apply And.intro))
         cases h;(cbv;(try simp only [e_rnil hR]);repeat' (first | exact trivial | exact rfl | exact Or.inr trivial | apply And.intro))
       cases h;(cbv;(try simp only [e_rnil hR]);repeat' (first | exact trivial | exact rfl | exact Or.inr trivial | apply And.intro))
     cases h;(cbv;(try simp only [e_rnil hR]);repeat' (first | exact trivial | exact rfl | exact Or.inr trivial | apply And.intro))
   cases h;(cbv;(try simp only [e_rnil hR]);repeat' (first | exact trivial | exact rfl | exact Or.inr trivial | apply And.intro))
 exact And.left (hQ _ _ _ rfl rfl (by cases h;subst hR;rfl))
theorem r16_rising_w {N:Nat} {p0:List Int} {p1:Int} {r:Bool} (h:r16_rising_g N p0 p1=some r):FunS Tryd.prog 23 [.t (.slc (rw _ (cI .i64) p0)),fI .i64 p1] (r16_rising_s rw) r:=by
 refine fun_w lay_ok Tryd.call23 Tryd.func23 rfl ?_
 intro A W E Q R hE hR hf hQ;rcases W with ⟨ar,cm,conj,cv,sl,sc,ct,sa,ss,ll,_,_,_,_,mi,mx,_,_,_⟩
 rw [←hR]
 unfold r16_rising_g at h
 skip
 cbv
 refine L_for hE lay_ok 0 (fun g:Int × Nat=>[(4,fB false),(5,fI .i64 g.1)]) (fun g=>[]) (fun g=>r16_rising_l1 p0 p1 g.2 g.1=some r) (fun g=>g.2) (_,N) h ?_ ?_
 · (cbv;(try simp only [e_rnil hR]);repeat' (first | exact trivial | exact rfl | exact Or.inr trivial | apply And.intro))
 rintro ⟨v1,m1⟩ h Q1 hN1 hT1 hX1
 have h:r16_rising_l1 p0 p1 m1 v1=some r:=h
 cases m1 with
 | zero=>exact nomatch (show (none:Option _)=some _ from h)
 | succ m1=>
 rw [r16_rising_l1] at h
 rw [q_ar hE,q_cm hE,q_ll hE,←hR] at h
 cbv
 refine L_if hE h (fun h=>?_) (fun h=>?_)<;>cbv
 · refine L_whole hE lay_ok (by kernel_rfl) (by kernel_rfl) ?_;cbv
   refine L_row hE hR h fun r2 h=>?_;cbv
   refine L_if hE h (fun h=>?_) (fun h=>?_)<;>cbv
   · refine L_if hE h (fun h=>?_) (fun h=>?_)<;>cbv
     · refine L_if hE h (fun h=>?_) (fun h=>?_)<;>cbv
       · refine L_if hE h (fun h=>?_) (fun h=>?_)<;>cbv
         · refine L_if hE h (fun h=>?_) (fun h=>?_)<;>cbv
           · refine L_if hE h (fun h=>?_) (fun h=>?_)<;>cbv
             · refine L_if hE h (fun h=>?_) (fun h=>?_)<;>cbv
               · refine L_t hE ?_;cbv
                 refine L_t hE ?_;cbv
                 refine L_t hE ?_;cbv
                 refine L_t hE ?_;cbv
                 refine L_t hE ?_;cbv
                 refine L_t hE ?_;cbv
                 refine hT1 _ ?_
                 exact And.left (hQ _ _ _ rfl rfl (by cases h;subst hR;rfl))
               exact nomatch h
             exact nomatch h
           exact nomatch h
         exact nomatch h
       exact nomatch h
     exact nomatch h
   refine L_if hE h (fun h=>?_) (fun h=>?_)<;>cbv
   · exact nomatch h
   refine L_if hE h (fun h=>?_) (fun h=>?_)<;>cbv
   · exact nomatch h
   refine L_row hE hR h fun r3 h=>?_;cbv
   refine L_if hE h (fun h=>?_) (fun h=>?_)<;>cbv
   · exact nomatch h
   refine L_if hE h (fun h=>?_) (fun h=>?_)<;>cbv
   · exact nomatch h
   refine L_if hE h (fun h=>?_) (fun h=>?_)<;>cbv
   · exact nomatch h
   refine L_if hE h (fun h=>?_) (fun h=>?_)<;>cbv
   · exact nomatch h
   refine L_if hE h (fun h=>?_) (fun h=>?_)<;>cbv
   · refine L_if hE h (fun h=>?_) (fun h=>?_)<;>cbv
     · refine L_if hE h (fun h=>?_) (fun h=>?_)<;>cbv
       · refine L_if hE h (fun h=>?_) (fun h=>?_)<;>cbv
         · refine L_if hE h (fun h=>?_) (fun h=>?_)<;>cbv
           · refine L_t hE ?_;cbv
             refine hT1 _ ?_
             exact And.left (hQ _ _ _ rfl rfl (by cases h;subst hR;rfl))
           exact nomatch h
         exact nomatch h
       exact nomatch h
     exact nomatch h
   refine L_if hE h (fun h=>?_) (fun h=>?_)<;>cbv
   · exact nomatch h
   refine L_if hE h (fun h=>?_) (fun h=>?_)<;>cbv
   · exact nomatch h
   refine L_if hE h (fun h=>?_) (fun h=>?_)<;>cbv
   · refine L_if hE h (fun h=>?_) (fun h=>?_)<;>cbv
     · refine L_if hE h (fun h=>?_) (fun h=>?_)<;>cbv
       · refine L_if hE h (fun h=>?_) (fun h=>?_)<;>cbv
         · refine L_row hE hR h fun r4 h=>?_;cbv
           refine L_if hE h (fun h=>?_) (fun h=>?_)<;>cbv
           · refine L_if hE h (fun h=>?_) (fun h=>?_)<;>cbv
             · refine L_if hE h (fun h=>?_) (fun h=>?_)<;>cbv
               · refine L_if hE h (fun h=>?_) (fun h=>?_)<;>cbv
                 · refine L_row hE hR h fun r5 h=>?_;cbv
                   refine L_if hE h (fun h=>?_) (fun h=>?_)<;>cbv
                   · refine L_if hE h (fun h=>?_) (fun h=>?_)<;>cbv
                     · refine L_if hE h (fun h=>?_) (fun h=>?_)<;>cbv
                       · exact nomatch h
                       refine L_if hE h (fun h=>?_) (fun h=>?_)<;>cbv
                       · refine L_if hE h (fun h=>?_) (fun h=>?_)<;>cbv
                         · exact nomatch h
                         refine L_if hE h (fun h=>?_) (fun h=>?_)<;>cbv
                         · refine hT1 _ ?_
                           exact And.left (hQ _ _ _ rfl rfl (by cases h;subst hR;rfl))
                         refine hN1 _ (_,m1) [] h (Nat.lt_succ_self _) trivial ?_;(cbv;(try simp only [e_rnil hR]);repeat' (first | exact trivial | exact rfl | exact Or.inr trivial | apply And.intro))
                       exact nomatch h
                     exact nomatch h
                   exact nomatch h
                 exact nomatch h
               exact nomatch h
             exact nomatch h
           exact nomatch h
         exact nomatch h
       exact nomatch h
     exact nomatch h
   refine L_if hE h (fun h=>?_) (fun h=>?_)<;>cbv
   · exact nomatch h
   refine L_if hE h (fun h=>?_) (fun h=>?_)<;>cbv
   · exact nomatch h
   refine L_if hE h (fun h=>?_) (fun h=>?_)<;>cbv
   · exact nomatch h
   refine L_if hE h (fun h=>?_) (fun h=>?_)<;>cbv
   · exact nomatch h
   refine L_if hE h (fun h=>?_) (fun h=>?_)<;>cbv
   · exact nomatch h
   refine L_if hE h (fun h=>?_) (fun h=>?_)<;>cbv
   · exact nomatch h
   refine L_if hE h (fun h=>?_) (fun h=>?_)<;>cbv
   · exact nomatch h
   refine L_if hE h (fun h=>?_) (fun h=>?_)<;>cbv
   · exact nomatch h
   refine L_if hE h (fun h=>?_) (fun h=>?_)<;>cbv
   · exact nomatch h
   refine L_if hE h (fun h=>?_) (fun h=>?_)<;>cbv
   · exact nomatch h
   refine L_if hE h (fun h=>?_) (fun h=>?_)<;>cbv
   · exact nomatch h
   refine L_if hE h (fun h=>?_) (fun h=>?_)<;>cbv
   · exact nomatch h
   refine L_f hE ?_;cbv
   refine hN1 _ (_,m1) [] h (Nat.lt_succ_self _) trivial ?_;(cbv;(try simp only [e_rnil hR]);repeat' (first | exact trivial | exact rfl | exact Or.inr trivial | apply And.intro))
 refine hX1 _ _ ?_;cbv
 exact And.left (hQ _ _ _ rfl rfl (by cases h;subst hR;rfl))
end Gn
end Go.Proofs.YtbpihhelojjedaaDoor
namespace Go.Proofs.YtbpihhelojjedaaDoor
open Go Go.RowKit
open Ab Sh
namespace Gn
def works16_g:Option Bool:=some true
theorem works16_w {r:Bool} (h:works16_g=some r):FunS Tryd.prog 6 [] (boolS rw) r:=by
 cases h;exact l16_works_w Pl.works16
end Gn
end Go.Proofs.YtbpihhelojjedaaDoor
namespace Go.Proofs.YtbpihhelojjedaaDoor
open Go Go.RowKit
open Ab Sh
namespace Gn
structure Gr16_W where
 Sets:List CSet
 Next:List (List Int)
 First:List Int
 Last:List Int
 None:Bool
end Gn
end Go.Proofs.YtbpihhelojjedaaDoor
namespace Go.Proofs.YtbpihhelojjedaaDoor
open Go Go.RowKit
open Ab Sh
namespace Gn
def r13_times_s (R:RF) (r:Bool):V:=fB r
def r13_times_g (p0:Int) (p1:Int):Option Bool:=
 (cond (cm .lss p0 0)
 (some true)
 (cond (cm .gtr p0 16)
 (some true)
 (cond (cm .gtr p1 16)
 (some true)
 (cond (cm .lss p1 (-1))
 (some true)
 (some (cm .eql p1 0))))):Option Bool).bind fun j1=>
 cond (j1)
 (some false)
 ((cond (cm .eql p1 (-1))
 (some true)
 (some (cm .geq p1 p0)):Option Bool).bind fun j2=>
 some j2)
def r13_Right_s (R:RF) (r:Bool):V:=fB r
def r13_Right_l1 (rec:Node→Option Bool) (p0:Node):Nat→Int→Option Bool
| 0,_=>none
| m+1,v9=>
 cond (cm .lss v9 (ll (rw _ nodeRow p0.kids)))
 ((at_ p0.kids v9).bind fun r10=>
 (rec r10).bind fun a11=>
 cond (!a11)
 (cond (!a11)
 (cond (!a11)
 (cond (!a11)
 (cond (!a11)
 (cond (!a11)
 (cond (!a11)
 (cond (!a11)
 (cond (!a11)
 (cond (!a11)
 (cond (!a11)
 (cond (!a11)
 (some false)
 (none))
 (none))
 (none))
 (none))
 (none))
 (none))
 (none))
 (none))
 (none))
 (none))
 (none))
 (cond (!a11)
 (none)
 (cond (!a11)
 (none)
 (cond (!a11)
 (none)
 ((at_ p0.kids v9).bind fun r12=>
 cond (!a11)
 (none)
 (cond (!a11)
 (none)
 (cond (!a11)
 (none)
 (cond (!a11)
 (none)
 (cond (!a11)
 (none)
 (cond (!a11)
 (none)
 (cond (cm .eql r12.kind p0.kind)
 (cond (cm .eql r12.kind p0.kind)
 (cond (cm .eql r12.kind p0.kind)
 (cond (!a11)
 (none)
 (cond (cm .eql r12.kind p0.kind)
 (cond (!a11)
 (none)
 (cond (cm .lss p0.kind 4)
 (some false)
 ((r13_Right_l1 rec p0 m) (ar .add .i64 v9 1))))
 (none)))
 (none))
 (none))
 (cond (cm .eql r12.kind p0.kind)
 (none)
 (cond (cm .eql r12.kind p0.kind)
 (none)
 (cond (!a11)
 (none)
 (cond (cm .eql r12.kind p0.kind)
 (none)
 (cond (!a11)
 (none)
 ((r13_Right_l1 rec p0 m) (ar .add .i64 v9 1))))))))))))))))))
 (some true)
def r13_Right_g:Nat→Node→Option Bool
| 0=>fun _=>none
| N+1=>fun p0=>
 (cond (cm .lss p0.kind 1)
 (some true)
 (some (cm .gtr p0.kind 4)):Option Bool).bind fun j1=>
 cond (j1)
 (some false)
 ((cond (cm .neq p0.kind 1)
 (cond (!(conj [cm .eql (p0.set.a.toNat:Int) 0,cm .eql (p0.set.b.toNat:Int) 0,cm .eql (p0.set.c.toNat:Int) 0,cm .eql (p0.set.d.toNat:Int) 0]))
 (some true)
 (cond (cm .neq p0.kind 4)
 (cond (cm .neq p0.min 0)
 (some true)
 (some (cm .neq p0.max 0)))
 (some false)))
 (cond (cm .neq p0.kind 4)
 (cond (cm .neq p0.min 0)
 (some true)
 (some (cm .neq p0.max 0)))
 (some false)):Option Bool).bind fun j2=>
 cond (j2)
 (some false)
 ((cond (cm .eql p0.kind 1)
 (cond (cm .neq (ll (rw _ nodeRow p0.kids)) 0)
 (some true)
 (cond (cm .eql p0.kind 2)
 (cond (cm .eql (ll (rw _ nodeRow p0.kids)) 1)
 (some true)
 (cond (cm .eql p0.kind 3)
 (cond (cm .lss (ll (rw _ nodeRow p0.kids)) 2)
 (some true)
 (cond (cm .eql p0.kind 4)
 (cond (cm .neq (ll (rw _ nodeRow p0.kids)) 1)
 (some true)
 ((r13_times_g p0.min p0.max).bind fun a1=>
 some !a1))
 (some false)))
 (cond (cm .eql p0.kind 4)
 (cond (cm .neq (ll (rw _ nodeRow p0.kids)) 1)
 (some true)
 ((r13_times_g p0.min p0.max).bind fun a2=>
 some !a2))
 (some false))))
 (cond (cm .eql p0.kind 3)
 (cond (cm .lss (ll (rw _ nodeRow p0.kids)) 2)
 (some true)
 (cond (cm .eql p0.kind 4)
 (cond (cm .neq (ll (rw _ nodeRow p0.kids)) 1)
 (some true)
 ((r13_times_g p0.min p0.max).bind fun a3=>
 some !a3))
 (some false)))
 (cond (cm .eql p0.kind 4)
 (cond (cm .neq (ll (rw _ nodeRow p0.kids)) 1)
 (some true)
 ((r13_times_g p0.min p0.max).bind fun a4=>
 some !a4))
 (some false)))))
 (cond (cm .eql p0.kind 2)
 (cond (cm .eql (ll (rw _ nodeRow p0.kids)) 1)
 (some true)
 (cond (cm .eql p0.kind 3)
 (cond (cm .lss (ll (rw _ nodeRow p0.kids)) 2)
 (some true)
 (cond (cm .eql p0.kind 4)
 (cond (cm .neq (ll (rw _ nodeRow p0.kids)) 1)
 (some true)
 ((r13_times_g p0.min p0.max).bind fun a5=>
 some !a5))
 (some false)))
 (cond (cm .eql p0.kind 4)
 (cond (cm .neq (ll (rw _ nodeRow p0.kids)) 1)
 (some true)
 ((r13_times_g p0.min p0.max).bind fun a6=>
 some !a6))
 (some false))))
 (cond (cm .eql p0.kind 3)
 (cond (cm .lss (ll (rw _ nodeRow p0.kids)) 2)
 (some true)
 (cond (cm .eql p0.kind 4)
 (cond (cm .neq (ll (rw _ nodeRow p0.kids)) 1)
 (some true)
 ((r13_times_g p0.min p0.max).bind fun a7=>
 some !a7))
 (some false)))
 (cond (cm .eql p0.kind 4)
 (cond (cm .neq (ll (rw _ nodeRow p0.kids)) 1)
 (some true)
 ((r13_times_g p0.min p0.max).bind fun a8=>
 some !a8))
 (some false)))):Option Bool).bind fun j3=>
 cond (j3)
 (some false)
 (r13_Right_l1 (r13_Right_g N) p0 N 0)))
def r16_count_s (R:RF) (r:Int):V:=fI .i64 r
def r16_count_l1 (rec:Node→Option Int) (p0:Node):Nat→Int→Int→Option Int
| 0,_,_=>none
| m+1,v1,v2=>
 cond (cm .lss v2 (ll (rw _ nodeRow p0.kids)))
 ((at_ p0.kids v2).bind fun r3=>
 (rec r3).bind fun a4=>
 (r16_count_l1 rec p0 m) (ar .add .i64 v1 a4) (ar .add .i64 v2 1))
 ((cond (cm .eql p0.kind 4)
 (some (cm .eql p0.max (-1)))
 (some false):Option Bool).bind fun j1=>
 (cond (j1)
 (some (ar .mul .i64 v1 (ar .add .i64 p0.min 1)))
 ((cond (cm .eql p0.kind 4)
 (some (ar .mul .i64 v1 p0.max))
 (some v1):Option Int).bind fun j2=>
 some j2):Option Int).bind fun j3=>
 cond (cm .gtr j3 513)
 (some 513)
 (some j3))
def r16_count_g:Nat→Node→Option Int
| 0=>fun _=>none
| N+1=>fun p0=>
 cond (cm .eql p0.kind 1)
 (some 1)
 (r16_count_l1 (r16_count_g N) p0 N 0 0)
def r16_Count_s (R:RF) (r:Int):V:=fI .i64 r
def r16_Count_g (N:Nat) (p0:Node):Option Int:=
 (r13_Right_g N p0).bind fun a1=>
 cond (!a1)
 (some 0)
 ((r16_count_g N p0).bind fun a2=>
 some a2)
def r16_link_s (R:RF) (r:List (List Int)):V:=.t (.slc (R _ (cLs (cI .i64)) r))
def r16_link_l1 (N:Nat) (p0:List (List Int)) (p1:List Int) (p2:List Int):Nat→Int→List (List Int)→Option (List (List Int))
| 0,_,_=>none
| m+1,v1,v2=>
 cond (cm .lss v1 (ll (rw _ (cLs (cI .i64)) p0)))
 ((r16_in_g N p1 v1).bind fun a3=>
 (cond (a3)
 ((at_ p0 v1).bind fun r4=>
 (r16_Join_g N r4 p2 (ll (rw _ (cLs (cI .i64)) p0))).bind fun a5=>
 (app (cLs (cI .i64)) v2 [a5]).bind fun l6=>
 some l6)
 ((at_ p0 v1).bind fun r7=>
 (app (cLs (cI .i64)) v2 [r7]).bind fun l8=>
 some l8):Option (List (List Int))).bind fun j1=>
 (r16_link_l1 N p0 p1 p2 m) (ar .add .i64 v1 1) j1)
 (some v2)
def r16_link_g (N:Nat) (p0:List (List Int)) (p1:List Int) (p2:List Int):Option (List (List Int)):=
 r16_link_l1 N p0 p1 p2 N 0 []
def r16_behind_s (R:RF) (r:Gr16_W):V:=.agg [.t (.slc (R _ cSet r.Sets)),.t (.slc (R _ (cLs (cI .i64)) r.Next)),.t (.slc (R _ (cI .i64) r.First)),.t (.slc (R _ (cI .i64) r.Last)),fB r.None]
def r16_behind_g (N:Nat) (p0:Gr16_W) (p1:Gr16_W):Option Gr16_W:=
 (r16_link_g N p1.Next p0.Last p1.First).bind fun a1=>
 cond (p0.None)
 (cond (p0.None)
 (cond (p0.None)
 (cond (p0.None)
 ((r16_Join_g N p0.First p1.First (ll (rw _ cSet p1.Sets))).bind fun a2=>
 (cond (p1.None)
 ((r16_Join_g N p0.Last p1.Last (ll (rw _ cSet p1.Sets))).bind fun a3=>
 some a3)
 (some p1.Last):Option (List Int)).bind fun j1=>
 some (⟨p1.Sets,a1,a2,j1,p1.None⟩:Gr16_W))
 (none))
 (none))
 (none))
 (cond (p0.None)
 (none)
 (cond (p0.None)
 (none)
 (cond (p0.None)
 (none)
 ((cond (p1.None)
 ((r16_Join_g N p0.Last p1.Last (ll (rw _ cSet p1.Sets))).bind fun a4=>
 some a4)
 (some p1.Last):Option (List Int)).bind fun j2=>
 some (⟨p1.Sets,a1,p0.First,j2,false⟩:Gr16_W)))))
def r16_rest_s (R:RF) (r:Gr16_W):V:=.agg [.t (.slc (R _ cSet r.Sets)),.t (.slc (R _ (cLs (cI .i64)) r.Next)),.t (.slc (R _ (cI .i64) r.First)),.t (.slc (R _ (cI .i64) r.Last)),fB r.None]
def r16_write_s (R:RF) (r:Gr16_W):V:=.agg [.t (.slc (R _ cSet r.Sets)),.t (.slc (R _ (cLs (cI .i64)) r.Next)),.t (.slc (R _ (cI .i64) r.First)),.t (.slc (R _ (cI .i64) r.Last)),fB r.None]
def r16_write_l1 (rec_r16_write:Node→Gr16_W→Option Gr16_W) (rec_r16_rest:Node→Gr16_W→Int→Option Gr16_W) (N:Nat) (p0:Node):Nat→Int→List CSet→List (List Int)→List Int→List Int→Bool→Option Gr16_W
| 0,_,_,_,_,_,_=>none
| m+1,v7,v8,v9,v10,v11,v12=>
 cond (cm .lss v7 p0.min)
 ((at_ p0.kids 0).bind fun r13=>
 (rec_r16_write r13 (⟨v8,v9,v10,v11,v12⟩:Gr16_W)).bind fun a14=>
 (r16_behind_g N (⟨v8,v9,v10,v11,v12⟩:Gr16_W) a14).bind fun a15=>
 (r16_write_l1 rec_r16_write rec_r16_rest N p0 m) (ar .add .i64 v7 1) a15.Sets a15.Next a15.First a15.Last a15.None)
 (cond (cm .neq p0.max (-1))
 ((at_ p0.kids 0).bind fun r16=>
 (rec_r16_rest r16 (⟨v8,v9,v10,v11,v12⟩:Gr16_W) (ar .sub .i64 p0.max p0.min)).bind fun a17=>
 (r16_behind_g N (⟨v8,v9,v10,v11,v12⟩:Gr16_W) a17).bind fun a18=>
 some a18)
 ((at_ p0.kids 0).bind fun r19=>
 (rec_r16_write r19 (⟨v8,v9,v10,v11,v12⟩:Gr16_W)).bind fun a20=>
 (r16_link_g N a20.Next a20.Last a20.First).bind fun a21=>
 (r16_behind_g N (⟨v8,v9,v10,v11,v12⟩:Gr16_W) (⟨a20.Sets,a21,a20.First,a20.Last,true⟩:Gr16_W)).bind fun a22=>
 some a22))
def r16_write_l2 (rec_r16_write:Node→Gr16_W→Option Gr16_W) (N:Nat) (p0:Node):Nat→Int→List CSet→List (List Int)→List Int→List Int→Bool→Option Gr16_W
| 0,_,_,_,_,_,_=>none
| m+1,v23,v24,v25,v26,v27,v28=>
 cond (cm .lss v23 (ll (rw _ nodeRow p0.kids)))
 ((at_ p0.kids v23).bind fun r29=>
 (rec_r16_write r29 (⟨v24,v25,v26,v27,v28⟩:Gr16_W)).bind fun a30=>
 (cond (cm .eql p0.kind 2)
 ((r16_behind_g N (⟨v24,v25,v26,v27,v28⟩:Gr16_W) a30).bind fun a31=>
 some (a31.Sets,a31.Next,a31.First,a31.Last,a31.None))
 ((r16_Join_g N v26 a30.First (ll (rw _ cSet a30.Sets))).bind fun a32=>
 (r16_Join_g N v27 a30.Last (ll (rw _ cSet a30.Sets))).bind fun a33=>
 cond (v28)
 (cond (v28)
 (cond (v28)
 (some (a30.Sets,a30.Next,a32,a33,true))
 (none))
 (none))
 (cond (v28)
 (none)
 (cond (v28)
 (none)
 (some (a30.Sets,a30.Next,a32,a33,a30.None))))):Option ((List CSet)×(List (List Int))×(List Int)×(List Int)× Bool)).bind fun j3=>
 (r16_write_l2 rec_r16_write N p0 m) (ar .add .i64 v23 1) j3.1 j3.2.1 j3.2.2.1 j3.2.2.2.1 j3.2.2.2.2)
 (some (⟨v24,v25,v26,v27,v28⟩:Gr16_W))
mutual
def r16_rest_g:Nat→Node→Gr16_W→Int→Option Gr16_W
| 0=>fun _ _ _=>none
| N+1=>fun p0 p1 p2=>
 cond (cm .lss p2 1)
 (some (⟨p1.Sets,p1.Next,[],[],true⟩:Gr16_W))
 (((r16_write_g N) p0 p1).bind fun a1=>
 ((r16_rest_g N) p0 a1 (ar .sub .i64 p2 1)).bind fun a2=>
 (r16_behind_g N a1 a2).bind fun a3=>
 some (⟨a3.Sets,a3.Next,a3.First,a3.Last,true⟩:Gr16_W))
def r16_write_g:Nat→Node→Gr16_W→Option Gr16_W
| 0=>fun _ _=>none
| N+1=>fun p0 p1=>
 cond (cm .eql p0.kind 1)
 ((app cSet [] p1.Sets).bind fun l1=>
 (app cSet l1 [p0.set]).bind fun l2=>
 (app (cLs (cI .i64)) [] p1.Next).bind fun l3=>
 (app (cLs (cI .i64)) l3 [[]]).bind fun l4=>
 some (⟨l2,l4,[ll (rw _ cSet p1.Sets)],[ll (rw _ cSet p1.Sets)],false⟩:Gr16_W))
 ((cond (cm .eql p0.kind 4)
 ((at_ p0.kids 0).bind fun r5=>
 (r16_count_g N r5).bind fun a6=>
 some (cm .eql a6 0))
 (some false):Option Bool).bind fun j1=>
 cond (j1)
 (some (⟨p1.Sets,p1.Next,[],[],cm .neq p0.kind 3⟩:Gr16_W))
 (cond (cm .eql p0.kind 4)
 (r16_write_l1 (r16_write_g N) (r16_rest_g N) N p0 N 0 p1.Sets p1.Next [] [] (cm .neq p0.kind 3))
 (r16_write_l2 (r16_write_g N) N p0 N 0 p1.Sets p1.Next [] [] (cm .neq p0.kind 3))))
end
def r16_Of_s (R:RF) (r:GSpots × Int):V:=.tup [.agg [.t (.slc (R _ cSet r.1.Sets)),fB r.1.None,.t (.slc (R _ (cI .i64) r.1.First)),.t (.slc (R _ (cI .i64) r.1.Last)),.t (.slc (R _ (cLs (cI .i64)) r.1.Next))],fI .i64 r.2]
def r16_Of_g (N:Nat) (p0:Node):Option (GSpots × Int):=
 (r13_Right_g N p0).bind fun a1=>
 cond (!a1)
 (some ((⟨[],false,[],[],[]⟩:GSpots),7))
 ((r16_count_g N p0).bind fun a2=>
 cond (cm .gtr a2 512)
 (some ((⟨[],false,[],[],[]⟩:GSpots),16))
 ((r16_write_g N p0 (⟨[],[],[],[],false⟩:Gr16_W)).bind fun a3=>
 some ((⟨a3.Sets,a3.None,a3.First,a3.Last,a3.Next⟩:GSpots),0)))
def r16_same_s (R:RF) (r:Bool):V:=fB r
def r16_same_l1 (p0:List Int) (p1:List Int):Nat→Int→Option Bool
| 0,_=>none
| m+1,v1=>
 cond (cm .lss v1 (ll (rw _ (cI .i64) p0)))
 ((at_ p0 v1).bind fun r2=>
 (at_ p1 v1).bind fun r3=>
 cond (cm .neq r2 r3)
 (some false)
 ((r16_same_l1 p0 p1 m) (ar .add .i64 v1 1)))
 (some true)
def r16_same_g (N:Nat) (p0:List Int) (p1:List Int):Option Bool:=
 cond (cm .neq (ll (rw _ (cI .i64) p0)) (ll (rw _ (cI .i64) p1)))
 (some false)
 (r16_same_l1 p0 p1 N 0)
def r16_Same_s (R:RF) (r:Bool):V:=fB r
def r16_Same_l2 (N:Nat) (p0:GSpots) (p1:GSpots):Nat→Int→Option Bool
| 0,_=>none
| m+1,v6=>
 cond (cm .lss v6 (ll (rw _ (cLs (cI .i64)) p0.Next)))
 ((at_ p0.Next v6).bind fun r7=>
 (at_ p1.Next v6).bind fun r8=>
 (r16_same_g N r7 r8).bind fun a9=>
 cond (!a9)
 (some false)
 ((r16_Same_l2 N p0 p1 m) (ar .add .i64 v6 1)))
 (some true)
def r16_Same_l1 (N:Nat) (p0:GSpots) (p1:GSpots):Nat→Int→Option Bool
| 0,_=>none
| m+1,v3=>
 cond (cm .lss v3 (ll (rw _ cSet p0.Sets)))
 ((at_ p0.Sets v3).bind fun r4=>
 (at_ p1.Sets v3).bind fun r5=>
 cond (!(conj [cm .eql (r4.a.toNat:Int) (r5.a.toNat:Int),cm .eql (r4.b.toNat:Int) (r5.b.toNat:Int),cm .eql (r4.c.toNat:Int) (r5.c.toNat:Int),cm .eql (r4.d.toNat:Int) (r5.d.toNat:Int)]))
 (some false)
 ((r16_Same_l1 N p0 p1 m) (ar .add .i64 v3 1)))
 (r16_Same_l2 N p0 p1 N 0)
def r16_Same_g (N:Nat) (p0:GSpots) (p1:GSpots):Option Bool:=
 (cond (!(conj [p0.None==p1.None]))
 (some true)
 (cond (cm .neq (ll (rw _ cSet p0.Sets)) (ll (rw _ cSet p1.Sets)))
 (some true)
 (cond (cm .neq (ll (rw _ (cLs (cI .i64)) p0.Next)) (ll (rw _ (cLs (cI .i64)) p1.Next)))
 (some true)
 ((r16_same_g N p0.First p1.First).bind fun a1=>
 cond (!a1)
 (some true)
 ((r16_same_g N p0.Last p1.Last).bind fun a2=>
 some !a2)))):Option Bool).bind fun j1=>
 cond (j1)
 (some false)
 (r16_Same_l1 N p0 p1 N 0)
def l16_SpotsOf_s (R:RF) (r:Bool):V:=fB r
def l16_SpotsOf_g (N:Nat) (p0:Node):Option Bool:=
 ((l13_Great_g N p0).bind fun a1=>
 cond (a1)
 (some true)
 ((spots_Count_g N p0).bind fun a2=>
 cond (cm .gtr a2 40)
 ((spots_Count_g N p0).bind fun a3=>
 some (cm .lss a3 513))
 (some false)):Option Bool).bind fun j1=>
 cond (j1)
 ((spots_Count_g N p0).bind fun a4=>
 (r16_Count_g N p0).bind fun a5=>
 cond (cm .eql a4 a5)
 ((works16_g).bind fun a6=>
 cond (cm .eql a4 a5)
 (some a6)
 (none))
 (cond (cm .eql a4 a5)
 (none)
 (some false)))
 ((spots_Of_g N p0).bind fun a7=>
 (r16_Of_g N p0).bind fun a8=>
 (spots_Count_g N p0).bind fun a9=>
 (r16_Count_g N p0).bind fun a10=>
 cond (cm .eql a9 a10)
 (cond (cm .eql a9 a10)
 (cond (cm .eql a9 a10)
 ((r16_Same_g N a7.1 a8.1).bind fun a11=>
 cond (cm .eql a9 a10)
 (cond (a11)
 (cond (a11)
 (cond (a11)
 (cond (a11)
 (cond (cm .eql a7.2 a8.2)
 ((works16_g).bind fun a12=>
 cond (cm .eql a7.2 a8.2)
 (some a12)
 (none))
 (cond (cm .eql a7.2 a8.2)
 (none)
 (some false)))
 (none))
 (none))
 (none))
 (cond (a11)
 (none)
 (cond (a11)
 (none)
 (cond (a11)
 (none)
 (some false)))))
 (none))
 (none))
 (none))
 (cond (cm .eql a9 a10)
 (none)
 (cond (cm .eql a9 a10)
 (none)
 (cond (cm .eql a9 a10)
 (none)
 (some false)))))
end Gn
end Go.Proofs.YtbpihhelojjedaaDoor
