/- Texts that the proof leans on. -/
import Derived.Test.YtpplemjjeefpdaaGreatDoorK230
set_option linter.unusedVariables false
set_option linter.unusedSimpArgs false
set_option maxRecDepth 100000
set_option maxHeartbeats 4000000
namespace Go.Proofs.YtpplemjjeefpdaaGreatDoor
open Go Go.RowKit
open Ab Sh
namespace Gn
def r02_Compare_s (R:RF) (r:Int):V:=fI .i64 r
def r22_Compare_s (R:RF) (r:Int):V:=fI .i64 r
end Gn
end Go.Proofs.YtpplemjjeefpdaaGreatDoor
namespace Go.Proofs.YtpplemjjeefpdaaGreatDoor
open Go Go.RowKit
open Ab Sh
namespace Gn
def r23_Order_s (R:RF) (r:List GMatcher):V:=.t (.slc (R _ cMatcher r))
def porterbase_SameTexts_s (R:RF) (r:Bool):V:=fB r
def porterbase_SameTexts_l1 (p0:List ByteArray) (p1:List ByteArray):Nat→Int→Option Bool
| 0,_=>none
| m+1,v1=>
 cond (cm .lss v1 (ll (rw _ cS p0)))
 ((at_ p0 v1).bind fun r2=>
 (at_ p1 v1).bind fun r3=>
 cond (sc .neq r2 r3)
 (some false)
 ((porterbase_SameTexts_l1 p0 p1 m) (ar .add .i64 v1 1)))
 (some true)
def porterbase_SameTexts_g (N:Nat) (p0:List ByteArray) (p1:List ByteArray):Option Bool:=
 cond (cm .neq (ll (rw _ cS p0)) (ll (rw _ cS p1)))
 (some false)
 (porterbase_SameTexts_l1 p0 p1 N 0)
def r23_Names_s (R:RF) (r:List ByteArray):V:=.t (.slc (R _ cS r))
def r23_Of_s (R:RF) (r:List GMatcher):V:=.t (.slc (R _ cMatcher r))
def r23_Of_l1 (p0:List GMatcher) (p1:ByteArray):Nat→Int→List GMatcher→Option (List GMatcher)
| 0,_,_=>none
| m+1,v1,v2=>
 cond (cm .lss v1 (ll (rw _ cMatcher p0)))
 ((at_ p0 v1).bind fun r3=>
 (cond (sc .eql r3.Name p1)
 ((at_ p0 v1).bind fun r4=>
 (app cMatcher v2 [r4]).bind fun l5=>
 some l5)
 (some v2):Option (List GMatcher)).bind fun j2=>
 (r23_Of_l1 p0 p1 m) (ar .add .i64 v1 1) j2)
 (some v2)
def r23_Of_g (N:Nat) (p0:List GMatcher) (p1:ByteArray):Option (List GMatcher):=
 r23_Of_l1 p0 p1 N 0 []
def l23_SelectorOrders_s (R:RF) (r:Bool):V:=fB r
def l23_SelectorOrders_g (N:Nat) (p0:List GMatcher) (p1:ByteArray):Option Bool:=
 (r23_Great_g N p0 []).bind fun a1=>
 cond (a1)
 ((l23_worksW_g N).bind fun a2=>
 some a2)
 (((selector_Order_g N p0).bind fun l3=>
 (r23_Order_g N p0).bind fun a4=>
 (porterbase_SameSel_g N l3 a4).bind fun a5=>
 cond (a5)
 ((selector_NamesW_g N p0).bind fun l6=>
 (r23_Names_g N p0).bind fun a7=>
 (porterbase_SameTexts_g N l6 a7).bind fun a8=>
 cond (a8)
 ((selector_Of_g p0 p1).bind fun l9=>
 (r23_Of_g N p0 p1).bind fun a10=>
 (porterbase_SameSel_g N l9 a10).bind fun a11=>
 cond (a11)
 ((l23_worksW_g N).bind fun a12=>
 some a12)
 (some false))
 (some false))
 (some false):Option Bool).bind fun j1=>
 some j1)
end Gn
end Go.Proofs.YtpplemjjeefpdaaGreatDoor
namespace Go.Proofs.YtpplemjjeefpdaaGreatDoor
open Go
open Sh Gn Soo
namespace Pl
theorem sametx_from (l:List ByteArray) (hl:l.length≤100000):∀(m k:Nat),k≤l.length→l.length<k+m→porterbase_SameTexts_l1 l l m k=some true:=by
 intro m
 induction m with
 | zero=>intro k h1 h2;omega
 | succ m ih=>
   intro k h1 h2
   rw [porterbase_SameTexts_l1,cm_lss,cond_dec,ll_eq]
   by_cases c:k<l.length
   · rw [if_pos (by omega),at_get c,inc1 (by omega)]
     simp only [Option.bind_some,sc_neq,decide_true,Bool.not_true,_root_.cond_false]
     exact ih (k+1) (by omega) (by omega)
   · rw [if_neg (by omega)]
theorem sametx_p {N:Nat} (l:List ByteArray) (hl:l.length≤100000) (hN:100000<N):porterbase_SameTexts_g N l l=some true:=by
 unfold porterbase_SameTexts_g
 rw [cm_neq,cond_not,cond_dec,ll_eq,if_pos rfl]
 exact sametx_from l hl N 0 (by omega) (by omega)
theorem rof_from (n:ByteArray) (l:List GMatcher) (hl:l.length≤100):∀(m k:Nat) (out:List GMatcher),k≤l.length→out.length≤k→l.length<k+m→r23_Of_l1 l n m k out=some (out++ofN (l.drop k) n):=by
 intro m
 induction m with
 | zero=>intro k out h1 h2 h3;omega
 | succ m ih=>
   intro k out h1 h2 h3
   rw [r23_Of_l1,cm_lss,cond_dec,ll_eq]
   by_cases c:k<l.length
   · rw [if_pos (by omega),at_get c,Option.bind_some,inc1 (by omega),sc_eql,List.drop_eq_getElem_cons c]
     unfold ofN
     rw [List.filter_cons]
     by_cases g:l[k].Name=n
     · rw [decide_eq_true g,_root_.cond_true,Option.bind_some]
       unfold app
       rw [if_pos (by simp;omega),Option.bind_some,Option.bind_some,ih (k+1) _ (by omega) (by simp;omega) (by omega),if_pos rfl,List.append_assoc]
       rfl
     · rw [decide_eq_false g,_root_.cond_false,Option.bind_some,ih (k+1) _ (by omega) (by omega) (by omega),if_neg (by simp)]
       rfl
   · rw [if_neg (by omega),List.drop_of_length_le (by omega)]
     unfold ofN
     rw [List.filter_nil,List.append_nil]
theorem rof_p {N:Nat} (hN:1000≤N) (l:List GMatcher) (hl:l.length≤100) (n:ByteArray):r23_Of_g N l n=some (ofN l n):=by
 unfold r23_Of_g
 have:=rof_from n l hl N 0 [] (by omega) (by simp) (by omega)
 rw [List.nil_append,List.drop_zero] at this
 exact this
theorem selorders_g {N:Nat} (hN:800000≤N) (hW:l23_worksW_g N=some true) (l:List GMatcher) (n:ByteArray):l23_SelectorOrders_g N l n=some true:=by
 unfold l23_SelectorOrders_g
 obtain ⟨b,h1,h2⟩:=sgreat_p (N:=N) (by omega) l []
 rw [h1,hW,Option.bind_some]
 cases b with
 | true=>rfl
 | false=>
   obtain ⟨z1,z2,z3⟩:=h2 rfl
   obtain ⟨r,o1,o2,o3,o4⟩:=orders_eq (N:=N) (by omega) l (by omega) (fun x hx=>⟨(z3 x hx).1,(z3 x hx).2.1⟩)
   obtain ⟨q,n1,n2,n3,n4,n5⟩:=namess_eq (N:=N) (by omega) l (by omega) (fun x hx=>⟨(z3 x hx).1,(z3 x hx).2.1⟩)
   have hof:(ofN l n).length≤l.length:=List.length_filter_le _ _
   rw [o1,o2,n1,n2,of_p l (by omega),rof_p (N:=N) (by omega) l (by omega)]
   simp only [Option.bind_some,_root_.cond_false,_root_.cond_true,samesel_p r (by omega) (show 100000<N by omega),sametx_p q (by omega) (show 100000<N by omega),samesel_p (ofN l n) (by omega) (show 100000<N by omega)]
theorem selorders_p (l:List GMatcher) (n:ByteArray):l23_SelectorOrders_g 800000 l n=some true:=selorders_g (Nat.le_refl _) sworksW_p l n
end Pl
end Go.Proofs.YtpplemjjeefpdaaGreatDoor
namespace Go.Proofs.YtpplemjjeefpdaaGreatDoor
open Go Go.RowKit
open Ab Sh
namespace Gn
theorem r02_Compare_w {N:Nat} {p0:ByteArray} {p1:ByteArray} {r:Int} (h:r02_Compare_g N p0 p1=some r):FunS Tryz.prog 51 [fS p0,fS p1] (r02_Compare_s rw) r:=by
 refine fun_w lay_ok Tryz.call51 Tryz.func51 rfl ?_
 intro A W E Q R hE hR hf hQ;rcases W with ⟨ar,cm,conj,cv,sl,sc,ct,sa,ss,ll,_,_,_,_,mi,mx,_,_,_⟩
 unfold r02_Compare_g at h
 skip
 cbv
 refine L_for hE lay_ok 0 (fun g:Int × Nat=>[(4,fI .i64 0),(5,fI .i64 g.1)]) (fun g=>[]) (fun g=>r02_Compare_l1 p0 p1 g.2 g.1=some r) (fun g=>g.2) (_,N) h ?_ ?_
 · (cbv;(try simp only [e_rnil hR]);repeat' (first | exact trivial | exact rfl | exact Or.inr trivial | apply And.intro))
 rintro ⟨v1,m1⟩ h Q1 hN1 hT1 hX1
 have h:r02_Compare_l1 p0 p1 m1 v1=some r:=h
 cases m1 with
 | zero=>exact nomatch (show (none:Option _)=some _ from h)
 | succ m1=>
 rw [r02_Compare_l1] at h
 rw [q_ar hE,q_cm hE,q_sl hE,q_sa hE] at h
 cbv
 refine L_rgJ hE lay_ok h 0 (fun j2:Bool=>[(15,fB j2)]) (fun j2=>[]) (fun j2 h=>?_) (fun j2 h=>?_)<;>cbv
 · refine L_if hE h (fun h=>?_) (fun h=>?_)<;>cbv
   · cases h;(cbv;(try simp only [e_rnil hR]);repeat' (first | exact trivial | exact rfl | exact Or.inr trivial | apply And.intro))
   cases h;(cbv;(try simp only [e_rnil hR]);repeat' (first | exact trivial | exact rfl | exact Or.inr trivial | apply And.intro))
 refine L_if hE h (fun h=>?_) (fun h=>?_)<;>cbv
 · refine L_whole hE lay_ok (by kernel_rfl) (by kernel_rfl) ?_;cbv
   refine L_sin hE h fun h=>?_
   refine L_sin hE h fun h=>?_
   refine L_if hE h (fun h=>?_) (fun h=>?_)<;>cbv
   · refine hT1 _ ?_
     exact And.left (hQ _ _ _ rfl rfl (by cases h;subst hR;rfl))
   refine L_whole hE lay_ok (by kernel_rfl) (by kernel_rfl) ?_;cbv
   refine L_sin hE h fun h=>?_
   refine L_sin hE h fun h=>?_
   refine L_if hE h (fun h=>?_) (fun h=>?_)<;>cbv
   · refine hT1 _ ?_
     exact And.left (hQ _ _ _ rfl rfl (by cases h;subst hR;rfl))
   refine hN1 _ (_,m1) [] h (Nat.lt_succ_self _) trivial ?_;(cbv;(try simp only [e_rnil hR]);repeat' (first | exact trivial | exact rfl | exact Or.inr trivial | apply And.intro))
 refine hX1 _ _ ?_;cbv
 refine L_if hE h (fun h=>?_) (fun h=>?_)<;>cbv
 · exact And.left (hQ _ _ _ rfl rfl (by cases h;subst hR;rfl))
 refine L_if hE h (fun h=>?_) (fun h=>?_)<;>cbv
 · exact And.left (hQ _ _ _ rfl rfl (by cases h;subst hR;rfl))
 exact And.left (hQ _ _ _ rfl rfl (by cases h;subst hR;rfl))
theorem r22_Compare_w {N:Nat} {p0:GMatcher} {p1:GMatcher} {r:Int} (h:r22_Compare_g N p0 p1=some r):FunS Tryz.prog 48 [.agg [fS p0.Name,fI .i64 p0.Op,fS p0.Value],.agg [fS p1.Name,fI .i64 p1.Op,fS p1.Value]] (r22_Compare_s rw) r:=by
 refine fun_w lay_ok Tryz.call48 Tryz.func48 rfl ?_
 intro A W E Q R hE hR hf hQ;rcases W with ⟨ar,cm,conj,cv,sl,sc,ct,sa,ss,ll,_,_,_,_,mi,mx,_,_,_⟩
 unfold r22_Compare_g at h
 rw [q_cm hE] at h
 cbv
 refine L_call hE hR h (fun _ e=>r02_Compare_w e) rfl rfl fun a1 h=>?_;cbv
 refine L_if hE h (fun h=>?_) (fun h=>?_)<;>cbv
 · exact And.left (hQ _ _ _ rfl rfl (by cases h;subst hR;rfl))
 refine L_if hE h (fun h=>?_) (fun h=>?_)<;>cbv
 · exact And.left (hQ _ _ _ rfl rfl (by cases h;subst hR;rfl))
 refine L_if hE h (fun h=>?_) (fun h=>?_)<;>cbv
 · exact And.left (hQ _ _ _ rfl rfl (by cases h;subst hR;rfl))
 refine L_call hE hR h (fun _ e=>r02_Compare_w e) rfl rfl fun a2 h=>?_;cbv
 exact And.left (hQ _ _ _ rfl rfl (by cases h;subst hR;rfl))
theorem r23_Order_w {N : Nat} {p0 : List GMatcher} {r:List GMatcher} (h:r23_Order_g N p0=some r):FunS Tryz.prog 21 [.t (.slc (rw _ cMatcher p0))] (r23_Order_s rw) r:=by
 refine fun_w lay_ok Tryz.call21 Tryz.func21 rfl ?_
 intro A W E Q R hE hR hf hQ;rcases W with ⟨ar,cm,conj,cv,sl,sc,ct,sa,ss,ll,_,_,_,_,mi,mx,_,_,_⟩
 rw [←hR]
 unfold r23_Order_g at h
 skip
 cbv
 refine L_for hE lay_ok 0 (fun g:Int ×(List GMatcher)× Nat=>[(3,.lst 0),(4,fI .i64 g.1)]) (fun g=>[(0,.list 46 3 (R _ cMatcher g.2.1))]) (fun g=>r23_Order_l1 N p0 g.2.2 g.1 g.2.1=some r) (fun g=>g.2.2) (_,_,N) h ?_ ?_
 · (cbv;(try simp only [e_rnil hR]);repeat' (first | exact trivial | exact rfl | exact Or.inr trivial | apply And.intro))
 rintro ⟨v1,v2,m1⟩ h Q1 hN1 hT1 hX1
 have h:r23_Order_l1 N p0 m1 v1 v2=some r:=h
 cases m1 with
 | zero=>exact nomatch (show (none:Option _)=some _ from h)
 | succ m1=>
 rw [r23_Order_l1] at h
 rw [q_cm hE,q_ll hE,←hR] at h
 cbv
 refine L_if hE h (fun h=>?_) (fun h=>?_)<;>cbv
 · refine L_for hE lay_ok 1 (fun g : Int × Int × Nat =>[(3,.lst 0),(5,fI .i64 g.1),(6,fI .i64 g.2.1)]) (fun g=>[]) (fun g=>r23_Order_l2 N (r23_Order_l1 N p0 m1) p0 v1 v2 g.2.2 g.1 g.2.1=some r) (fun g=>g.2.2) (_,_,N) h ?_ ?_
   · (cbv;(try simp only [e_rnil hR]);repeat' (first | exact trivial | exact rfl | exact Or.inr trivial | apply And.intro))
   rintro ⟨v3,v4,m2⟩ h Q2 hN2 hT2 hX2
   have h:r23_Order_l2 N (r23_Order_l1 N p0 m1) p0 v1 v2 m2 v3 v4=some r:=h
   cases m2 with
   | zero=>exact nomatch (show (none:Option _)=some _ from h)
   | succ m2=>
   rw [r23_Order_l2] at h
   rw [q_ar hE,q_cm hE,q_ll hE,←hR] at h
   cbv
   refine L_if hE h (fun h=>?_) (fun h=>?_)<;>cbv
   · refine L_whole hE lay_ok (by kernel_rfl) (by kernel_rfl) ?_;cbv
     refine L_if hE h (fun h=>?_) (fun h=>?_)<;>cbv
     · refine L_if hE h (fun h => ?_) (fun h =>?_)<;>cbv
       · refine L_if hE h (fun h => ?_) (fun h =>?_)<;>cbv
         · refine L_row hE hR h fun r5 h =>?_;cbv
           refine L_if hE h (fun h=>?_) (fun h=>?_)<;>cbv
           · refine L_if hE h (fun h => ?_) (fun h =>?_)<;>cbv
             · refine L_if hE h (fun h => ?_) (fun h =>?_)<;>cbv
               · refine L_if hE h (fun h => ?_) (fun h=>?_)<;>cbv
                 · refine L_if hE h (fun h => ?_) (fun h=>?_)<;>cbv
                   · refine L_if hE h (fun h => ?_) (fun h=>?_)<;>cbv
                     · refine L_row hE hR h fun r6 h =>?_;cbv
                       refine L_if hE h (fun h=>?_) (fun h=>?_)<;>cbv
                       · refine L_row hE hR h fun r7 h=>?_;cbv
                         refine L_if hE h (fun h=>?_) (fun h=>?_)<;>cbv
                         · refine L_pcall hE hR h (fun _ e=>r22_Compare_w e) rfl rfl fun a8 h=>?_;cbv
                           refine L_if hE h (fun h=>?_) (fun h=>?_)<;>cbv
                           · refine L_if hE h (fun h =>?_) (fun h=>?_)<;>cbv
                             · refine L_if hE h (fun h=>?_) (fun h=>?_)<;>cbv
                               · refine hN2 _ (_,_,m2) [] h (Nat.lt_succ_self _) trivial ?_;(cbv;(try simp only [e_rnil hR]);repeat' (first | exact trivial | exact rfl | exact Or.inr trivial | apply And.intro))
                               refine L_whole hE lay_ok (by kernel_rfl) (by kernel_rfl) ?_;cbv
                               refine L_if hE h (fun h=>?_) (fun h=>?_)<;>cbv
                               · refine L_if hE h (fun h=>?_) (fun h=>?_)<;>cbv
                                 · refine L_if hE h (fun h=>?_) (fun h=>?_)<;>cbv
                                   · refine L_if hE h (fun h=>?_) (fun h=>?_)<;>cbv
                                     · refine L_if hE h (fun h=>?_) (fun h=>?_)<;>cbv
                                       · refine L_if hE h (fun h=>?_) (fun h=>?_)<;>cbv
                                         · refine L_if hE h (fun h=>?_) (fun h=>?_)<;>cbv
                                           · refine L_if hE h (fun h=>?_) (fun h=>?_)<;>cbv
                                             · refine L_if hE h (fun h=>?_) (fun h=>?_)<;>cbv
                                               · refine L_if hE h (fun h=>?_) (fun h=>?_)<;>cbv
                                                 · refine L_if hE h (fun h=>?_) (fun h=>?_)<;>cbv
                                                   · refine L_cd hE lay_ok ?_;cbv
                                                     refine L_t hE ?_;cbv
                                                     refine hN2 _ (_,_,m2) [] h (Nat.lt_succ_self _) trivial ?_;(cbv;(try simp only [e_rnil hR]);repeat' (first | exact trivial | exact rfl | exact Or.inr trivial | apply And.intro))
                                                   exact nomatch h
                                                 exact nomatch h
                                               exact nomatch h
                                             exact nomatch h
                                           exact nomatch h
                                         exact nomatch h
                                       exact nomatch h
                                     exact nomatch h
                                   exact nomatch h
                                 exact nomatch h
                               refine L_if hE h (fun h=>?_) (fun h=>?_)<;>cbv
                               · exact nomatch h
                               refine L_if hE h (fun h=>?_) (fun h=>?_)<;>cbv
                               · exact nomatch h
                               refine L_row hE hR h fun r9 h=>?_;cbv
                               refine L_if hE h (fun h=>?_) (fun h=>?_)<;>cbv
                               · exact nomatch h
                               refine L_if hE h (fun h=>?_) (fun h=>?_)<;>cbv
                               · exact nomatch h
                               refine L_if hE h (fun h=>?_) (fun h=>?_)<;>cbv
                               · exact nomatch h
                               refine L_if hE h (fun h=>?_) (fun h=>?_)<;>cbv
                               · exact nomatch h
                               refine L_row hE hR h fun r10 h=>?_;cbv
                               refine L_if hE h (fun h=>?_) (fun h=>?_)<;>cbv
                               · exact nomatch h
                               refine L_if hE h (fun h=>?_) (fun h=>?_)<;>cbv
                               · exact nomatch h
                               refine L_pcall hE hR h (fun _ e=>r22_Compare_w e) rfl rfl fun a11 h=>?_;cbv
                               refine L_if hE h (fun h=>?_) (fun h=>?_)<;>cbv
                               · exact nomatch h
                               refine L_if hE h (fun h=>?_) (fun h=>?_)<;>cbv
                               · exact nomatch h
                               refine L_cdJ hE lay_ok h 32 (fun j3:Int=>[(5,fI .i64 j3)]) (fun j3=>[]) (fun j3 h=>?_) (fun j3 h=>?_)<;>cbv
                               · refine L_if hE h (fun h=>?_) (fun h=>?_)<;>cbv
                                 · cases h;(cbv;(try simp only [e_rnil hR]);repeat' (first | exact trivial | exact rfl | exact Or.inr trivial | apply And.intro))
                                 cases h;(cbv;(try simp only [e_rnil hR]);repeat' (first | exact trivial | exact rfl | exact Or.inr trivial | apply And.intro))
                               refine hN2 _ (_,_,m2) [] h (Nat.lt_succ_self _) trivial ?_;(cbv;(try simp only [e_rnil hR]);repeat' (first | exact trivial | exact rfl | exact Or.inr trivial | apply And.intro))
                             exact nomatch h
                           exact nomatch h
                         exact nomatch h
                       exact nomatch h
                     exact nomatch h
                   exact nomatch h
                 exact nomatch h
               exact nomatch h
             exact nomatch h
           exact nomatch h
         exact nomatch h
       exact nomatch h
     refine L_if hE h (fun h=>?_) (fun h=>?_)<;>cbv
     · exact nomatch h
     refine L_if hE h (fun h=>?_) (fun h=>?_)<;>cbv
     · exact nomatch h
     refine L_if hE h (fun h=>?_) (fun h=>?_)<;>cbv
     · exact nomatch h
     refine L_if hE h (fun h=>?_) (fun h=>?_)<;>cbv
     · exact nomatch h
     refine L_if hE h (fun h=>?_) (fun h=>?_)<;>cbv
     · exact nomatch h
     refine L_if hE h (fun h=>?_) (fun h=>?_)<;>cbv
     · exact nomatch h
     refine L_if hE h (fun h=>?_) (fun h=>?_)<;>cbv
     · exact nomatch h
     refine L_if hE h (fun h=>?_) (fun h=>?_)<;>cbv
     · exact nomatch h
     refine L_if hE h (fun h=>?_) (fun h=>?_)<;>cbv
     · exact nomatch h
     refine L_if hE h (fun h=>?_) (fun h=>?_)<;>cbv
     · exact nomatch h
     refine L_if hE h (fun h=>?_) (fun h=>?_)<;>cbv
     · exact nomatch h
     refine L_if hE h (fun h=>?_) (fun h=>?_)<;>cbv
     · exact nomatch h
     refine L_f hE ?_;cbv
     refine L_whole hE lay_ok (by kernel_rfl) (by kernel_rfl) ?_;cbv
     refine L_if hE h (fun h=>?_) (fun h=>?_)<;>cbv
     · refine L_if hE h (fun h=>?_) (fun h=>?_)<;>cbv
       · refine L_if hE h (fun h=>?_) (fun h=>?_)<;>cbv
         · refine L_if hE h (fun h=>?_) (fun h=>?_)<;>cbv
           · refine L_if hE h (fun h=>?_) (fun h=>?_)<;>cbv
             · refine L_if hE h (fun h=>?_) (fun h=>?_)<;>cbv
               · refine L_if hE h (fun h=>?_) (fun h=>?_)<;>cbv
                 · refine L_if hE h (fun h=>?_) (fun h=>?_)<;>cbv
                   · refine L_if hE h (fun h=>?_) (fun h=>?_)<;>cbv
                     · refine L_if hE h (fun h=>?_) (fun h=>?_)<;>cbv
                       · refine L_if hE h (fun h=>?_) (fun h=>?_)<;>cbv
                         · refine L_cd hE lay_ok ?_;cbv
                           refine L_t hE ?_;cbv
                           refine hN2 _ (_,_,m2) [] h (Nat.lt_succ_self _) trivial ?_;(cbv;(try simp only [e_rnil hR]);repeat' (first | exact trivial | exact rfl | exact Or.inr trivial | apply And.intro))
                         exact nomatch h
                       exact nomatch h
                     exact nomatch h
                   exact nomatch h
                 exact nomatch h
               exact nomatch h
             exact nomatch h
           exact nomatch h
         exact nomatch h
       exact nomatch h
     refine L_if hE h (fun h=>?_) (fun h=>?_)<;>cbv
     · exact nomatch h
     refine L_if hE h (fun h=>?_) (fun h=>?_)<;>cbv
     · exact nomatch h
     refine L_row hE hR h fun r12 h=>?_;cbv
     refine L_if hE h (fun h=>?_) (fun h=>?_)<;>cbv
     · exact nomatch h
     refine L_if hE h (fun h=>?_) (fun h=>?_)<;>cbv
     · exact nomatch h
     refine L_if hE h (fun h=>?_) (fun h=>?_)<;>cbv
     · exact nomatch h
     refine L_if hE h (fun h=>?_) (fun h=>?_)<;>cbv
     · exact nomatch h
     refine L_row hE hR h fun r13 h=>?_;cbv
     refine L_if hE h (fun h=>?_) (fun h=>?_)<;>cbv
     · exact nomatch h
     refine L_if hE h (fun h=>?_) (fun h=>?_)<;>cbv
     · exact nomatch h
     refine L_pcall hE hR h (fun _ e=>r22_Compare_w e) rfl rfl fun a14 h=>?_;cbv
     refine L_if hE h (fun h=>?_) (fun h=>?_)<;>cbv
     · exact nomatch h
     refine L_if hE h (fun h=>?_) (fun h=>?_)<;>cbv
     · exact nomatch h
     refine L_cdJ hE lay_ok h 32 (fun j4:Int=>[(5,fI .i64 j4)]) (fun j4=>[]) (fun j4 h=>?_) (fun j4 h=>?_)<;>cbv
     · refine L_if hE h (fun h=>?_) (fun h=>?_)<;>cbv
       · cases h;(cbv;(try simp only [e_rnil hR]);repeat' (first | exact trivial | exact rfl | exact Or.inr trivial | apply And.intro))
       cases h;(cbv;(try simp only [e_rnil hR]);repeat' (first | exact trivial | exact rfl | exact Or.inr trivial | apply And.intro))
     refine hN2 _ (_,_,m2) [] h (Nat.lt_succ_self _) trivial ?_;(cbv;(try simp only [e_rnil hR]);repeat' (first | exact trivial | exact rfl | exact Or.inr trivial | apply And.intro))
   refine hX2 _ _ ?_;cbv
   refine L_cdJ hE lay_ok h 1 (fun j5:(List GMatcher)=>[(3,.lst 0)]) (fun j5=>[(0,.list 46 3 (R _ cMatcher j5))]) (fun j5 h=>?_) (fun j5 h=>?_)<;>cbv
   · refine L_if hE h (fun h=>?_) (fun h=>?_)<;>cbv
     · refine L_row hE hR h fun r15 h=>?_;cbv
       refine L_appL hE hR h rfl (hf _) (fun _=>rfl) (by decide) fun l16 e h=>?_;cbv at e;rw [e];clear e
       cases h;(cbv;(try simp only [e_rnil hR]);repeat' (first | exact trivial | exact rfl | exact Or.inr trivial | apply And.intro))
     cases h;(cbv;(try simp only [e_rnil hR]);repeat' (first | exact trivial | exact rfl | exact Or.inr trivial | apply And.intro))
   refine hN1 _ (_,_,m1) [] h (Nat.lt_succ_self _) trivial ?_;(cbv;(try simp only [e_rnil hR]);repeat' (first | exact trivial | exact rfl | exact Or.inr trivial | apply And.intro))
 refine hX1 _ _ ?_;cbv
 exact And.left (hQ _ _ _ rfl rfl (by cases h;subst hR;rfl))
end Gn
end Go.Proofs.YtpplemjjeefpdaaGreatDoor
namespace Go.Proofs.YtpplemjjeefpdaaGreatDoor
open Go Go.RowKit
open Ab Sh
namespace Gn
theorem porterbase_SameTexts_w {N:Nat} {p0:List ByteArray} {p1:List ByteArray} {r:Bool} (h:porterbase_SameTexts_g N p0 p1=some r):FunS Tryz.prog 22 [.t (.slc (rw _ cS p0)),.t (.slc (rw _ cS p1))] (porterbase_SameTexts_s rw) r:=by
 refine fun_w lay_ok Tryz.call22 Tryz.func22 rfl ?_
 intro A W E Q R hE hR hf hQ;rcases W with ⟨ar,cm,conj,cv,sl,sc,ct,sa,ss,ll,_,_,_,_,mi,mx,_,_,_⟩
 rw [←hR]
 unfold porterbase_SameTexts_g at h
 rw [q_cm hE,q_ll hE,←hR] at h
 cbv
 refine L_if hE h (fun h=>?_) (fun h=>?_)<;>cbv
 · exact And.left (hQ _ _ _ rfl rfl (by cases h;subst hR;rfl))
 refine L_for hE lay_ok 0 (fun g:Int × Nat=>[(4,fB false),(5,fI .i64 g.1)]) (fun g=>[]) (fun g=>porterbase_SameTexts_l1 p0 p1 g.2 g.1=some r) (fun g=>g.2) (_,N) h ?_ ?_
 · (cbv;(try simp only [e_rnil hR]);repeat' (first | exact trivial | exact rfl | exact Or.inr trivial | apply And.intro))
 rintro ⟨v1,m1⟩ h Q1 hN1 hT1 hX1
 have h:porterbase_SameTexts_l1 p0 p1 m1 v1=some r:=h
 cases m1 with
 | zero=>exact nomatch (show (none:Option _)=some _ from h)
 | succ m1=>
 rw [porterbase_SameTexts_l1] at h
 rw [q_ar hE,q_cm hE,q_sc hE,q_ll hE,←hR] at h
 cbv
 refine L_if hE h (fun h=>?_) (fun h=>?_)<;>cbv
 · refine L_whole hE lay_ok (by kernel_rfl) (by kernel_rfl) ?_;cbv
   refine L_row hE hR h fun r2 h=>?_;cbv
   refine L_row hE hR h fun r3 h=>?_;cbv
   refine L_if hE h (fun h=>?_) (fun h=>?_)<;>cbv
   · refine hT1 _ ?_
     exact And.left (hQ _ _ _ rfl rfl (by cases h;subst hR;rfl))
   refine hN1 _ (_,m1) [] h (Nat.lt_succ_self _) trivial ?_;(cbv;(try simp only [e_rnil hR]);repeat' (first | exact trivial | exact rfl | exact Or.inr trivial | apply And.intro))
 refine hX1 _ _ ?_;cbv
 exact And.left (hQ _ _ _ rfl rfl (by cases h;subst hR;rfl))
theorem r23_Names_w {N : Nat} {p0 : List GMatcher} {r:List ByteArray} (h:r23_Names_g N p0=some r):FunS Tryz.prog 24 [.t (.slc (rw _ cMatcher p0))] (r23_Names_s rw) r:=by
 refine fun_w lay_ok Tryz.call24 Tryz.func24 rfl ?_
 intro A W E Q R hE hR hf hQ;rcases W with ⟨ar,cm,conj,cv,sl,sc,ct,sa,ss,ll,_,_,_,_,mi,mx,_,_,_⟩
 rw [←hR]
 unfold r23_Names_g at h
 skip
 cbv
 refine L_for hE lay_ok 0 (fun g:Int ×(List ByteArray)× Nat=>[(3,.lst 0),(4,fI .i64 g.1)]) (fun g=>[(0,.list 9 1 (R _ cS g.2.1))]) (fun g=>r23_Names_l1 N p0 g.2.2 g.1 g.2.1=some r) (fun g=>g.2.2) (_,_,N) h ?_ ?_
 · (cbv;(try simp only [e_rnil hR]);repeat' (first | exact trivial | exact rfl | exact Or.inr trivial | apply And.intro))
 rintro ⟨v1,v2,m1⟩ h Q1 hN1 hT1 hX1
 have h:r23_Names_l1 N p0 m1 v1 v2=some r:=h
 cases m1 with
 | zero=>exact nomatch (show (none:Option _)=some _ from h)
 | succ m1=>
 rw [r23_Names_l1] at h
 rw [q_cm hE,q_ll hE,←hR] at h
 cbv
 refine L_if hE h (fun h=>?_) (fun h=>?_)<;>cbv
 · refine L_for hE lay_ok 1 (fun g : Int × Int × Nat => [(3,.lst 0),(5,fI .i64 g.1),(6,fI .i64 g.2.1)]) (fun g=>[]) (fun g=>r23_Names_l2 N (r23_Names_l1 N p0 m1) p0 v1 v2 g.2.2 g.1 g.2.1=some r) (fun g=>g.2.2) (_,_,N) h ?_ ?_
   · (cbv;(try simp only [e_rnil hR]);repeat' (first | exact trivial | exact rfl | exact Or.inr trivial | apply And.intro))
   rintro ⟨v3,v4,m2⟩ h Q2 hN2 hT2 hX2
   have h:r23_Names_l2 N (r23_Names_l1 N p0 m1) p0 v1 v2 m2 v3 v4=some r:=h
   cases m2 with
   | zero=>exact nomatch (show (none:Option _)=some _ from h)
   | succ m2=>
   rw [r23_Names_l2] at h
   rw [q_ar hE,q_cm hE,q_ll hE,←hR] at h
   cbv
   refine L_if hE h (fun h=>?_) (fun h=>?_)<;>cbv
   · refine L_whole hE lay_ok (by kernel_rfl) (by kernel_rfl) ?_;cbv
     refine L_if hE h (fun h=>?_) (fun h=>?_)<;>cbv
     · refine L_if hE h (fun h => ?_) (fun h =>?_)<;>cbv
       · refine L_if hE h (fun h => ?_) (fun h =>?_)<;>cbv
         · refine L_row hE hR h fun r5 h =>?_;cbv
           refine L_if hE h (fun h=>?_) (fun h=>?_)<;>cbv
           · refine L_if hE h (fun h => ?_) (fun h =>?_)<;>cbv
             · refine L_if hE h (fun h => ?_) (fun h =>?_)<;>cbv
               · refine L_if hE h (fun h => ?_) (fun h =>?_)<;>cbv
                 · refine L_if hE h (fun h => ?_) (fun h =>?_)<;>cbv
                   · refine L_if hE h (fun h => ?_) (fun h =>?_)<;>cbv
                     · refine L_if hE h (fun h => ?_) (fun h=>?_)<;>cbv
                       · refine L_row hE hR h fun r6 h =>?_;cbv
                         refine L_if hE h (fun h=>?_) (fun h=>?_)<;>cbv
                         · refine L_row hE hR h fun r7 h =>?_;cbv
                           refine L_if hE h (fun h=>?_) (fun h=>?_)<;>cbv
                           · refine L_pcall hE hR h (fun _ e=>r02_Compare_w e) rfl rfl fun a8 h=>?_;cbv
                             refine L_if hE h (fun h=>?_) (fun h=>?_)<;>cbv
                             · refine L_if hE h (fun h =>?_) (fun h=>?_)<;>cbv
                               · refine L_if hE h (fun h =>?_) (fun h=>?_)<;>cbv
                                 · refine hN2 _ (_,_,m2) [] h (Nat.lt_succ_self _) trivial ?_;(cbv;(try simp only [e_rnil hR]);repeat' (first | exact trivial | exact rfl | exact Or.inr trivial | apply And.intro))
                                 refine L_whole hE lay_ok (by kernel_rfl) (by kernel_rfl) ?_;cbv
                                 refine L_if hE h (fun h=>?_) (fun h=>?_)<;>cbv
                                 · refine L_if hE h (fun h =>?_) (fun h=>?_)<;>cbv
                                   · refine L_if hE h (fun h=>?_) (fun h=>?_)<;>cbv
                                     · refine L_if hE h (fun h=>?_) (fun h=>?_)<;>cbv
                                       · refine L_if hE h (fun h=>?_) (fun h=>?_)<;>cbv
                                         · refine L_if hE h (fun h=>?_) (fun h=>?_)<;>cbv
                                           · refine L_if hE h (fun h=>?_) (fun h=>?_)<;>cbv
                                             · refine L_if hE h (fun h=>?_) (fun h=>?_)<;>cbv
                                               · refine L_if hE h (fun h=>?_) (fun h=>?_)<;>cbv
                                                 · refine L_if hE h (fun h=>?_) (fun h=>?_)<;>cbv
                                                   · refine L_if hE h (fun h=>?_) (fun h=>?_)<;>cbv
                                                     · refine L_if hE h (fun h=>?_) (fun h=>?_)<;>cbv
                                                       · refine L_if hE h (fun h=>?_) (fun h=>?_)<;>cbv
                                                         · refine L_cd hE lay_ok ?_;cbv
                                                           refine L_t hE ?_;cbv
                                                           refine hN2 _ (_,_,m2) [] h (Nat.lt_succ_self _) trivial ?_;(cbv;(try simp only [e_rnil hR]);repeat' (first | exact trivial | exact rfl | exact Or.inr trivial | apply And.intro))
                                                         exact nomatch h
                                                       exact nomatch h
                                                     exact nomatch h
                                                   exact nomatch h
                                                 exact nomatch h
                                               exact nomatch h
                                             exact nomatch h
                                           exact nomatch h
                                         exact nomatch h
                                       exact nomatch h
                                     exact nomatch h
                                   exact nomatch h
                                 refine L_if hE h (fun h=>?_) (fun h=>?_)<;>cbv
                                 · exact nomatch h
                                 refine L_if hE h (fun h=>?_) (fun h=>?_)<;>cbv
                                 · exact nomatch h
                                 refine L_row hE hR h fun r9 h=>?_;cbv
                                 refine L_if hE h (fun h=>?_) (fun h=>?_)<;>cbv
                                 · exact nomatch h
                                 refine L_if hE h (fun h=>?_) (fun h=>?_)<;>cbv
                                 · exact nomatch h
                                 refine L_if hE h (fun h=>?_) (fun h=>?_)<;>cbv
                                 · exact nomatch h
                                 refine L_if hE h (fun h=>?_) (fun h=>?_)<;>cbv
                                 · exact nomatch h
                                 refine L_if hE h (fun h=>?_) (fun h=>?_)<;>cbv
                                 · exact nomatch h
                                 refine L_row hE hR h fun r10 h=>?_;cbv
                                 refine L_if hE h (fun h=>?_) (fun h=>?_)<;>cbv
                                 · exact nomatch h
                                 refine L_if hE h (fun h=>?_) (fun h=>?_)<;>cbv
                                 · exact nomatch h
                                 refine L_if hE h (fun h=>?_) (fun h=>?_)<;>cbv
                                 · exact nomatch h
                                 refine L_pcall hE hR h (fun _ e=>r02_Compare_w e) rfl rfl fun a11 h=>?_;cbv
                                 refine L_if hE h (fun h=>?_) (fun h=>?_)<;>cbv
                                 · exact nomatch h
                                 refine L_if hE h (fun h=>?_) (fun h=>?_)<;>cbv
                                 · exact nomatch h
                                 refine L_cdJ hE lay_ok h 35 (fun j3:Int=>[(5,fI .i64 j3)]) (fun j3=>[]) (fun j3 h=>?_) (fun j3 h=>?_)<;>cbv
                                 · refine L_if hE h (fun h=>?_) (fun h=>?_)<;>cbv
                                   · cases h;(cbv;(try simp only [e_rnil hR]);repeat' (first | exact trivial | exact rfl | exact Or.inr trivial | apply And.intro))
                                   cases h;(cbv;(try simp only [e_rnil hR]);repeat' (first | exact trivial | exact rfl | exact Or.inr trivial | apply And.intro))
                                 refine hN2 _ (_,_,m2) [] h (Nat.lt_succ_self _) trivial ?_;(cbv;(try simp only [e_rnil hR]);repeat' (first | exact trivial | exact rfl | exact Or.inr trivial | apply And.intro))
                               exact nomatch h
                             exact nomatch h
                           exact nomatch h
                         exact nomatch h
                       exact nomatch h
                     exact nomatch h
                   exact nomatch h
                 exact nomatch h
               exact nomatch h
             exact nomatch h
           exact nomatch h
         exact nomatch h
       exact nomatch h
     refine L_if hE h (fun h=>?_) (fun h=>?_)<;>cbv
     · exact nomatch h
     refine L_if hE h (fun h=>?_) (fun h=>?_)<;>cbv
     · exact nomatch h
     refine L_if hE h (fun h=>?_) (fun h=>?_)<;>cbv
     · exact nomatch h
     refine L_if hE h (fun h=>?_) (fun h=>?_)<;>cbv
     · exact nomatch h
     refine L_if hE h (fun h=>?_) (fun h=>?_)<;>cbv
     · exact nomatch h
     refine L_if hE h (fun h=>?_) (fun h=>?_)<;>cbv
     · exact nomatch h
     refine L_if hE h (fun h=>?_) (fun h=>?_)<;>cbv
     · exact nomatch h
     refine L_if hE h (fun h=>?_) (fun h=>?_)<;>cbv
     · exact nomatch h
     refine L_if hE h (fun h=>?_) (fun h=>?_)<;>cbv
     · exact nomatch h
     refine L_if hE h (fun h=>?_) (fun h=>?_)<;>cbv
     · exact nomatch h
     refine L_if hE h (fun h=>?_) (fun h=>?_)<;>cbv
     · exact nomatch h
     refine L_if hE h (fun h=>?_) (fun h=>?_)<;>cbv
     · exact nomatch h
     refine L_if hE h (fun h=>?_) (fun h=>?_)<;>cbv
     · exact nomatch h
     refine L_f hE ?_;cbv
     refine L_whole hE lay_ok (by kernel_rfl) (by kernel_rfl) ?_;cbv
     refine L_if hE h (fun h=>?_) (fun h=>?_)<;>cbv
     · refine L_if hE h (fun h =>?_) (fun h=>?_)<;>cbv
       · refine L_if hE h (fun h=>?_) (fun h=>?_)<;>cbv
         · refine L_if hE h (fun h=>?_) (fun h=>?_)<;>cbv
           · refine L_if hE h (fun h=>?_) (fun h=>?_)<;>cbv
             · refine L_if hE h (fun h=>?_) (fun h=>?_)<;>cbv
               · refine L_if hE h (fun h=>?_) (fun h=>?_)<;>cbv
                 · refine L_if hE h (fun h=>?_) (fun h=>?_)<;>cbv
                   · refine L_if hE h (fun h=>?_) (fun h=>?_)<;>cbv
                     · refine L_if hE h (fun h=>?_) (fun h=>?_)<;>cbv
                       · refine L_if hE h (fun h=>?_) (fun h=>?_)<;>cbv
                         · refine L_if hE h (fun h=>?_) (fun h=>?_)<;>cbv
                           · refine L_if hE h (fun h=>?_) (fun h=>?_)<;>cbv
                             · refine L_cd hE lay_ok ?_;cbv
                               refine L_t hE ?_;cbv
                               refine hN2 _ (_,_,m2) [] h (Nat.lt_succ_self _) trivial ?_;(cbv;(try simp only [e_rnil hR]);repeat' (first | exact trivial | exact rfl | exact Or.inr trivial | apply And.intro))
                             exact nomatch h
                           exact nomatch h
                         exact nomatch h
                       exact nomatch h
                     exact nomatch h
                   exact nomatch h
                 exact nomatch h
               exact nomatch h
             exact nomatch h
           exact nomatch h
         exact nomatch h
       exact nomatch h
     refine L_if hE h (fun h=>?_) (fun h=>?_)<;>cbv
     · exact nomatch h
     refine L_if hE h (fun h=>?_) (fun h=>?_)<;>cbv
     · exact nomatch h
     refine L_row hE hR h fun r12 h=>?_;cbv
     refine L_if hE h (fun h=>?_) (fun h=>?_)<;>cbv
     · exact nomatch h
     refine L_if hE h (fun h=>?_) (fun h=>?_)<;>cbv
     · exact nomatch h
     refine L_if hE h (fun h=>?_) (fun h=>?_)<;>cbv
     · exact nomatch h
     refine L_if hE h (fun h=>?_) (fun h=>?_)<;>cbv
     · exact nomatch h
     refine L_if hE h (fun h=>?_) (fun h=>?_)<;>cbv
     · exact nomatch h
     refine L_row hE hR h fun r13 h=>?_;cbv
     refine L_if hE h (fun h=>?_) (fun h=>?_)<;>cbv
     · exact nomatch h
     refine L_if hE h (fun h=>?_) (fun h=>?_)<;>cbv
     · exact nomatch h
     refine L_if hE h (fun h=>?_) (fun h=>?_)<;>cbv
     · exact nomatch h
     refine L_pcall hE hR h (fun _ e=>r02_Compare_w e) rfl rfl fun a14 h=>?_;cbv
     refine L_if hE h (fun h=>?_) (fun h=>?_)<;>cbv
     · exact nomatch h
     refine L_if hE h (fun h=>?_) (fun h=>?_)<;>cbv
     · exact nomatch h
     refine L_cdJ hE lay_ok h 35 (fun j4:Int=>[(5,fI .i64 j4)]) (fun j4=>[]) (fun j4 h=>?_) (fun j4 h=>?_)<;>cbv
     · refine L_if hE h (fun h=>?_) (fun h=>?_)<;>cbv
       · cases h;(cbv;(try simp only [e_rnil hR]);repeat' (first | exact trivial | exact rfl | exact Or.inr trivial | apply And.intro))
       cases h;(cbv;(try simp only [e_rnil hR]);repeat' (first | exact trivial | exact rfl | exact Or.inr trivial | apply And.intro))
     refine hN2 _ (_,_,m2) [] h (Nat.lt_succ_self _) trivial ?_;(cbv;(try simp only [e_rnil hR]);repeat' (first | exact trivial | exact rfl | exact Or.inr trivial | apply And.intro))
   refine hX2 _ _ ?_;cbv
   refine L_cdJ hE lay_ok h 1 (fun j5:(List ByteArray)=>[(3,.lst 0)]) (fun j5=>[(0,.list 9 1 (R _ cS j5))]) (fun j5 h=>?_) (fun j5 h=>?_)<;>cbv
   · refine L_if hE h (fun h=>?_) (fun h=>?_)<;>cbv
     · refine L_row hE hR h fun r15 h=>?_;cbv
       refine L_appL hE hR h rfl (hf _) (fun _=>rfl) (by decide) fun l16 e h=>?_;cbv at e;rw [e];clear e
       cases h;(cbv;(try simp only [e_rnil hR]);repeat' (first | exact trivial | exact rfl | exact Or.inr trivial | apply And.intro))
     cases h;(cbv;(try simp only [e_rnil hR]);repeat' (first | exact trivial | exact rfl | exact Or.inr trivial | apply And.intro))
   refine hN1 _ (_,_,m1) [] h (Nat.lt_succ_self _) trivial ?_;(cbv;(try simp only [e_rnil hR]);repeat' (first | exact trivial | exact rfl | exact Or.inr trivial | apply And.intro))
 refine hX1 _ _ ?_;cbv
 exact And.left (hQ _ _ _ rfl rfl (by cases h;subst hR;rfl))
end Gn
end Go.Proofs.YtpplemjjeefpdaaGreatDoor
