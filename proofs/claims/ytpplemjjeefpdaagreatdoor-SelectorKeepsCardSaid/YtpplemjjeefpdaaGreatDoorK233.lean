/- Texts that the proof leans on. -/
import Derived.Test.YtpplemjjeefpdaaGreatDoorK226
set_option linter.unusedVariables false
set_option linter.unusedSimpArgs false
set_option maxRecDepth 100000
set_option maxHeartbeats 4000000
namespace Go.Proofs.YtpplemjjeefpdaaGreatDoor
open Go Go.RowKit
open Ab Sh
namespace Gn
theorem matcher_same_ask_w {p0:ByteArray} {p1:ByteArray} {r:Bool} (h:matcher_same_ask_g p0 p1=some r):FunS Tryz.prog 213 [fS p0,fS p1] (matcher_same_ask_s rw) r:=by
 refine fun_w lay_ok Tryz.call213 Tryz.func213 rfl ?_
 intro A W E Q R hE hR hf hQ;rcases W with ⟨ar,cm,conj,cv,sl,sc,ct,sa,ss,ll,_,_,_,_,mi,mx,_,_,_⟩
 unfold matcher_same_ask_g at h
 rw [q_sc hE] at h
 cbv
 exact And.left (hQ _ _ _ rfl rfl (by cases h;subst hR;rfl))
theorem slices_Index_152_w {N:Nat} {p0:List Int} {p1:Int} {r:Int} (h:slices_Index_152_g N p0 p1=some r):FunS Tryz.prog 218 [.t (.slc (rw _ (cI .i64) p0)),fI .i64 p1] (slices_Index_152_s rw) r:=by
 refine fun_w lay_ok Tryz.call218 Tryz.func218 rfl ?_
 intro A W E Q R hE hR hf hQ;rcases W with ⟨ar,cm,conj,cv,sl,sc,ct,sa,ss,ll,_,_,_,_,mi,mx,_,_,_⟩
 rw [←hR]
 unfold slices_Index_152_g at h
 skip
 cbv
 refine L_for hE lay_ok 0 (fun g:Int × Nat=>[(4,fI .i64 0),(8,fI .i64 g.1)]) (fun g=>[]) (fun g=>slices_Index_152_l1 p0 p1 g.2 g.1=some r) (fun g=>g.2) (_,N) h ?_ ?_
 · (cbv;(try simp only [e_rnil hR]);repeat' (first | exact trivial | exact rfl | exact Or.inr trivial | apply And.intro))
 rintro ⟨v1,m1⟩ h Q1 hN1 hT1 hX1
 have h:slices_Index_152_l1 p0 p1 m1 v1=some r:=h
 cases m1 with
 | zero=>exact nomatch (show (none:Option _)=some _ from h)
 | succ m1=>
 rw [slices_Index_152_l1] at h
 rw [q_ar hE,q_cm hE,q_ll hE,←hR] at h
 cbv
 refine L_if hE h (fun h=>?_) (fun h=>?_)<;>cbv
 · refine L_row hE hR h fun r2 h=>?_;cbv
   refine L_if hE h (fun h=>?_) (fun h=>?_)<;>cbv
   · refine hT1 _ ?_
     exact And.left (hQ _ _ _ rfl rfl (by cases h;subst hR;rfl))
   refine hN1 _ (_,m1) [] h (Nat.lt_succ_self _) trivial ?_;(cbv;(try simp only [e_rnil hR]);repeat' (first | exact trivial | exact rfl | exact Or.inr trivial | apply And.intro))
 refine hX1 _ _ ?_;cbv
 exact And.left (hQ _ _ _ rfl rfl (by cases h;subst hR;rfl))
theorem slices_Contains_150_w {N:Nat} {p0:List Int} {p1:Int} {r:Bool} (h:slices_Contains_150_g N p0 p1=some r):FunS Tryz.prog 216 [.t (.slc (rw _ (cI .i64) p0)),fI .i64 p1] (slices_Contains_150_s rw) r:=by
 refine fun_w lay_ok Tryz.call216 Tryz.func216 rfl ?_
 intro A W E Q R hE hR hf hQ;rcases W with ⟨ar,cm,conj,cv,sl,sc,ct,sa,ss,ll,_,_,_,_,mi,mx,_,_,_⟩
 rw [←hR]
 unfold slices_Contains_150_g at h
 rw [q_cm hE] at h
 cbv
 refine L_call hE hR h (fun _ e=>slices_Index_152_w e) (by subst hR;rfl) rfl fun a1 h=>?_;cbv
 exact And.left (hQ _ _ _ rfl rfl (by cases h;subst hR;rfl))
theorem regex_times_w {p0:Int} {p1:Int} {r:Bool} (h:regex_times_g p0 p1=some r):FunS Tryz.prog 221 [fI .i64 p0,fI .i64 p1] (regex_times_s rw) r:=by
 refine fun_w lay_ok Tryz.call221 Tryz.func221 rfl ?_
 intro A W E Q R hE hR hf hQ;rcases W with ⟨ar,cm,conj,cv,sl,sc,ct,sa,ss,ll,_,_,_,_,mi,mx,_,_,_⟩
 unfold regex_times_g at h
 rw [q_cm hE,q_mx hE] at h
 cbv
 refine L_rgJ hE lay_ok h 0 (fun j1:Bool=>[(10,fB j1)]) (fun j1=>[]) (fun j1 h=>?_) (fun j1 h=>?_)<;>cbv
 · refine L_if hE h (fun h=>?_) (fun h=>?_)<;>cbv
   · cases h;(cbv;(try simp only [e_rnil hR]);repeat' (first | exact trivial | exact rfl | exact Or.inr trivial | apply And.intro))
   cases h;(cbv;(try simp only [e_rnil hR]);repeat' (first | exact trivial | exact rfl | exact Or.inr trivial | apply And.intro))
 refine L_if hE h (fun h=>?_) (fun h=>?_)<;>cbv
 · exact And.left (hQ _ _ _ rfl rfl (by cases h;subst hR;rfl))
 refine L_rgJ hE lay_ok h 0 (fun j2:Bool=>[(4,fB j2)]) (fun j2=>[]) (fun j2 h=>?_) (fun j2 h=>?_)<;>cbv
 · refine L_if hE h (fun h=>?_) (fun h=>?_)<;>cbv
   · cases h;(cbv;(try simp only [e_rnil hR]);repeat' (first | exact trivial | exact rfl | exact Or.inr trivial | apply And.intro))
   refine L_if hE h (fun h=>?_) (fun h=>?_)<;>cbv
   · cases h;(cbv;(try simp only [e_rnil hR]);repeat' (first | exact trivial | exact rfl | exact Or.inr trivial | apply And.intro))
   cases h;(cbv;(try simp only [e_rnil hR]);repeat' (first | exact trivial | exact rfl | exact Or.inr trivial | apply And.intro))
 exact And.left (hQ _ _ _ rfl rfl (by cases h;subst hR;rfl))
theorem regex_Right_w:∀{N:Nat} {p0:Node} {r:Bool},regex_Right_g N p0=some r→FunS Tryz.prog 219 [.agg [fI .i64 p0.kind,fI .u64 (p0.set.a.toNat:Int),fI .u64 (p0.set.b.toNat:Int),fI .u64 (p0.set.c.toNat:Int),fI .u64 (p0.set.d.toNat:Int),.t (.slc (rw _ nodeRow p0.kids)),fI .i64 p0.min,fI .i64 p0.max]] (regex_Right_s rw) r:=by
 intro N
 induction N with
 | zero=>intros;rename_i h;exact nomatch (show (none:Option _)=some _ from h)
 | succ N ih=>
 intro p0 r h
 refine fun_w lay_ok Tryz.call219 Tryz.func219 rfl ?_
 intro A W E Q R hE hR hf hQ;rcases W with ⟨ar,cm,conj,cv,sl,sc,ct,sa,ss,ll,_,_,_,_,mi,mx,_,_,_⟩
 rw [←hR]
 rw [regex_Right_g] at h
 skip
 cbv
 refine L_for hE lay_ok 1 (fun g:Int × Nat=>[(2,fB false),(8,fI .i64 g.1)]) (fun g=>[]) (fun g=>regex_Right_l1 (regex_Right_g N) p0 g.2 g.1=some r) (fun g=>g.2) (_,N) h ?_ ?_
 · (cbv;(try simp only [e_rnil hR]);repeat' (first | exact trivial | exact rfl | exact Or.inr trivial | apply And.intro))
 rintro ⟨v1,m1⟩ h Q1 hN1 hT1 hX1
 have h:regex_Right_l1 (regex_Right_g N) p0 m1 v1=some r:=h
 cases m1 with
 | zero=>exact nomatch (show (none:Option _)=some _ from h)
 | succ m1=>
 rw [regex_Right_l1] at h
 rw [q_ar hE,q_cm hE,q_conj hE,q_ll hE,←hR] at h
 cbv
 refine L_if hE h (fun h=>?_) (fun h=>?_)<;>cbv
 · refine L_rowN hE hR h fun r2 h=>?_;cbv
   refine L_rgJ hE lay_ok h 2 (fun j4:Bool=>[(26,fB j4)]) (fun j4=>[]) (fun j4 h=>?_) (fun j4 h=>?_)<;>cbv
   · refine L_call hE hR h (fun _ e=>ih e) (by subst hR;rfl) rfl fun a3 h=>?_;cbv
     refine L_if hE h (fun h=>?_) (fun h=>?_)<;>cbv
     · cases h;(cbv;(try simp only [e_rnil hR]);repeat' (first | exact trivial | exact rfl | exact Or.inr trivial | apply And.intro))
     refine L_if hE h (fun h=>?_) (fun h=>?_)<;>cbv
     · cases h;(cbv;(try simp only [e_rnil hR]);repeat' (first | exact trivial | exact rfl | exact Or.inr trivial | apply And.intro))
     cases h;(cbv;(try simp only [e_rnil hR]);repeat' (first | exact trivial | exact rfl | exact Or.inr trivial | apply And.intro))
   refine L_if hE h (fun h=>?_) (fun h=>?_)<;>cbv
   · refine hT1 _ ?_
     exact And.left (hQ _ _ _ rfl rfl (by cases h;subst hR;rfl))
   refine hN1 _ (_,m1) [] h (Nat.lt_succ_self _) trivial ?_;(cbv;(try simp only [e_rnil hR]);repeat' (first | exact trivial | exact rfl | exact Or.inr trivial | apply And.intro))
 refine hX1 _ _ ?_;cbv
 refine L_rgJ hE lay_ok h 1 (fun j5:Bool=>[(51,fB j5)]) (fun j5=>[]) (fun j5 h=>?_) (fun j5 h=>?_)<;>cbv
 · refine L_if hE h (fun h=>?_) (fun h=>?_)<;>cbv
   · refine L_if hE h (fun h=>?_) (fun h=>?_)<;>cbv
     · cases h;(cbv;(try simp only [e_rnil hR]);repeat' (first | exact trivial | exact rfl | exact Or.inr trivial | apply And.intro))
     refine L_if hE h (fun h=>?_) (fun h=>?_)<;>cbv
     · refine L_if hE h (fun h=>?_) (fun h=>?_)<;>cbv
       · cases h;(cbv;(try simp only [e_rnil hR]);repeat' (first | exact trivial | exact rfl | exact Or.inr trivial | apply And.intro))
       cases h;(cbv;(try simp only [e_rnil hR]);repeat' (first | exact trivial | exact rfl | exact Or.inr trivial | apply And.intro))
     cases h;(cbv;(try simp only [e_rnil hR]);repeat' (first | exact trivial | exact rfl | exact Or.inr trivial | apply And.intro))
   refine L_if hE h (fun h=>?_) (fun h=>?_)<;>cbv
   · refine L_if hE h (fun h=>?_) (fun h=>?_)<;>cbv
     · cases h;(cbv;(try simp only [e_rnil hR]);repeat' (first | exact trivial | exact rfl | exact Or.inr trivial | apply And.intro))
     cases h;(cbv;(try simp only [e_rnil hR]);repeat' (first | exact trivial | exact rfl | exact Or.inr trivial | apply And.intro))
   cases h;(cbv;(try simp only [e_rnil hR]);repeat' (first | exact trivial | exact rfl | exact Or.inr trivial | apply And.intro))
 refine L_if hE h (fun h=>?_) (fun h=>?_)<;>cbv
 · exact And.left (hQ _ _ _ rfl rfl (by cases h;subst hR;rfl))
 refine L_if hE h (fun h=>?_) (fun h=>?_)<;>cbv
 · exact And.left (hQ _ _ _ rfl rfl (by cases h;subst hR;rfl))
 refine L_if hE h (fun h=>?_) (fun h=>?_)<;>cbv
 · exact And.left (hQ _ _ _ rfl rfl (by cases h;subst hR;rfl))
 refine L_if hE h (fun h=>?_) (fun h=>?_)<;>cbv
 · exact And.left (hQ _ _ _ rfl rfl (by cases h;subst hR;rfl))
 refine L_if hE h (fun h=>?_) (fun h=>?_)<;>cbv
 · refine L_rgJ hE lay_ok h 1 (fun j6:Bool=>[(2,fB j6)]) (fun j6=>[]) (fun j6 h=>?_) (fun j6 h=>?_)<;>cbv
   · refine L_if hE h (fun h=>?_) (fun h=>?_)<;>cbv
     · refine L_call hE hR h (fun _ e=>regex_times_w e) rfl rfl fun a4 h=>?_;cbv
       cases h;(cbv;(try simp only [e_rnil hR]);repeat' (first | exact trivial | exact rfl | exact Or.inr trivial | apply And.intro))
     cases h;(cbv;(try simp only [e_rnil hR]);repeat' (first | exact trivial | exact rfl | exact Or.inr trivial | apply And.intro))
   exact And.left (hQ _ _ _ rfl rfl (by cases h;subst hR;rfl))
 exact And.left (hQ _ _ _ rfl rfl (by cases h;subst hR;rfl))
end Gn
end Go.Proofs.YtpplemjjeefpdaaGreatDoor
namespace Go.Proofs.YtpplemjjeefpdaaGreatDoor
open Go Go.RowKit
open Ab Sh
namespace Gn
theorem slices_Clone_159_w {p0:List Bool} {r:List Bool} (h:slices_Clone_159_g p0=some r):FunL Tryz.prog 225 [.t (.slc (rw _ cB p0))] 4 1 (rw _ cB r):=by
 refine list_w lay_ok Tryz.call225 Tryz.func225 rfl ?_
 intro A W E Q R hE hR hf hQ;rcases W with ⟨ar,cm,conj,cv,sl,sc,ct,sa,ss,ll,_,_,_,_,mi,mx,_,_,_⟩
 rw [←hR]
 unfold slices_Clone_159_g at h
 skip
 cbv
 refine L_nilq hE hR h (fun e=>by subst e;rfl) (fun h=>?_) (fun h=>?_)<;>cbv
 · refine L_t hE ?_;cbv
   exact And.left (hQ _ _ rfl (.inr ⟨rfl,by cases h;rfl⟩))
 refine L_f hE ?_;cbv
 refine L_lit hR (e:=cB) h rfl fun l1 e h=>?_;cbv at e;rw [e];clear e
 refine L_app hE hR h (hf _) (fun _=>rfl) (by decide) fun l2 e h=>?_;cbv at e;rw [e];clear e
 exact And.left (hQ _ _ rfl (.inl ⟨_,rfl,by cases h;subst hR;rfl⟩))
theorem slices_Equal_160_w {N:Nat} {p0:List Bool} {p1:List Bool} {r:Bool} (h:slices_Equal_160_g N p0 p1=some r):FunS Tryz.prog 226 [.t (.slc (rw _ cB p0)),.t (.slc (rw _ cB p1))] (slices_Equal_160_s rw) r:=by
 refine fun_w lay_ok Tryz.call226 Tryz.func226 rfl ?_
 intro A W E Q R hE hR hf hQ;rcases W with ⟨ar,cm,conj,cv,sl,sc,ct,sa,ss,ll,_,_,_,_,mi,mx,_,_,_⟩
 rw [←hR]
 unfold slices_Equal_160_g at h
 rw [q_cm hE,q_ll hE,←hR] at h
 cbv
 refine L_if hE h (fun h=>?_) (fun h=>?_)<;>cbv
 · exact And.left (hQ _ _ _ rfl rfl (by cases h;subst hR;rfl))
 refine L_for hE lay_ok 0 (fun g:Int × Nat=>[(4,fB false),(13,fI .i64 g.1)]) (fun g=>[]) (fun g=>slices_Equal_160_l1 p0 p1 g.2 g.1=some r) (fun g=>g.2) (_,N) h ?_ ?_
 · (cbv;(try simp only [e_rnil hR]);repeat' (first | exact trivial | exact rfl | exact Or.inr trivial | apply And.intro))
 rintro ⟨v1,m1⟩ h Q1 hN1 hT1 hX1
 have h:slices_Equal_160_l1 p0 p1 m1 v1=some r:=h
 cases m1 with
 | zero=>exact nomatch (show (none:Option _)=some _ from h)
 | succ m1=>
 rw [slices_Equal_160_l1] at h
 rw [q_ar hE,q_cm hE,q_conj hE,q_ll hE,←hR] at h
 cbv
 refine L_if hE h (fun h=>?_) (fun h=>?_)<;>cbv
 · refine L_whole hE lay_ok (by kernel_rfl) (by kernel_rfl) ?_;cbv
   refine L_row hE hR h fun r2 h=>?_;cbv
   refine L_row hE hR h fun r3 h=>?_;cbv
   refine L_if hE h (fun h=>?_) (fun h=>?_)<;>cbv
   · refine hT1 _ ?_
     exact And.left (hQ _ _ _ rfl rfl (by cases h;subst hR;rfl))
   refine hN1 _ (_,m1) [] h (Nat.lt_succ_self _) trivial ?_;(cbv;(try simp only [e_rnil hR]);repeat' (first | exact trivial | exact rfl | exact Or.inr trivial | apply And.intro))
 refine hX1 _ _ ?_;cbv
 exact And.left (hQ _ _ _ rfl rfl (by cases h;subst hR;rfl))
theorem match_often_w {rec:Node→ByteArray→List Bool→Option (List Bool)} (hrec:∀{p0:Node} {p1:ByteArray} {p2:List Bool} {r:List Bool},rec p0 p1 p2=some r→FunL Tryz.prog 220 [.agg [fI .i64 p0.kind,fI .u64 (p0.set.a.toNat:Int),fI .u64 (p0.set.b.toNat:Int),fI .u64 (p0.set.c.toNat:Int),fI .u64 (p0.set.d.toNat:Int),.t (.slc (rw _ nodeRow p0.kids)),fI .i64 p0.min,fI .i64 p0.max],fS p1,.t (.slc (rw _ cB p2))] 4 1 (rw _ cB r)) {N:Nat} {p0:Node} {p1:ByteArray} {p2:List Bool} {r:List Bool} (h:match_often_g rec N p0 p1 p2=some r):FunL Tryz.prog 224 [.agg [fI .i64 p0.kind,fI .u64 (p0.set.a.toNat:Int),fI .u64 (p0.set.b.toNat:Int),fI .u64 (p0.set.c.toNat:Int),fI .u64 (p0.set.d.toNat:Int),.t (.slc (rw _ nodeRow p0.kids)),fI .i64 p0.min,fI .i64 p0.max],fS p1,.t (.slc (rw _ cB p2))] 4 1 (rw _ cB r):=by
 refine list_w lay_ok Tryz.call224 Tryz.func224 rfl ?_
 intro A W E Q R hE hR hf hQ;rcases W with ⟨ar,cm,conj,cv,sl,sc,ct,sa,ss,ll,_,_,_,_,mi,mx,_,_,_⟩
 rw [←hR]
 unfold match_often_g at h
 skip
 cbv
 refine L_list hE hR h (fun _ e=>slices_Clone_159_w e) (by subst hR;rfl) rfl fun l1 h=>?_;cbv
 refine L_for hE lay_ok 2 (fun g:Int ×(List Bool)× Nat=>[(7,.lst 1),(15,fI .i64 g.1)]) (fun g=>[(1,.list 4 1 (R _ cB g.2.1))]) (fun g=>match_often_l1 rec N p0 p1 g.2.2 g.1 g.2.1=some r) (fun g=>g.2.2) (_,_,N) h ?_ ?_
 · (cbv;(try simp only [e_rnil hR]);repeat' (first | exact trivial | exact rfl | exact Or.inr trivial | apply And.intro))
 rintro ⟨v2,v3,m1⟩ h Q1 hN1 hT1 hX1
 have h:match_often_l1 rec N p0 p1 m1 v2 v3=some r:=h
 cases m1 with
 | zero=>exact nomatch (show (none:Option _)=some _ from h)
 | succ m1=>
 rw [match_often_l1] at h
 rw [q_ar hE,q_cm hE] at h
 cbv
 refine L_if hE h (fun h=>?_) (fun h=>?_)<;>cbv
 · refine L_rowN hE hR h fun r4 h=>?_;cbv
   refine L_listB hE hR h (fun _ e=>hrec e) rfl (by subst hR;rfl) flat_B fun l5 h=>?_;cbv
   refine L_bare hE hR h (fun _ e=>slices_Equal_160_w e) rfl (by subst hR;rfl) (fun _=>rfl) fun a6 h=>?_;cbv
   refine L_if hE h (fun h=>?_) (fun h=>?_)<;>cbv
   · refine hX1 _ _ ?_;cbv
     refine L_listB hE hR h (fun _ e=>slices_Clone_159_w e) rfl (by subst hR;rfl) flat_B fun l7 h=>?_;cbv
     refine L_for hE lay_ok 4 (fun g:Int ×(List Bool)×(List Bool)× Nat=>[(7,.lst 1),(8,.lst 2),(9,.lst 3),(10,fI .i64 g.1),(23,.lst 2),(24,.lst 2),(30,.lst 3)]) (fun g=>[(1,.list 4 1 (R _ cB g.2.1)),(3,.list 4 1 (R _ cB g.2.2.1))]) (fun g=>match_often_l2 rec N p0 p1 g.2.2.2 g.1 g.2.1 g.2.2.1=some r) (fun g=>g.2.2.2) (_,_,_,N) h ?_ ?_
     · (cbv;(try simp only [e_rnil hR]);repeat' (first | exact trivial | exact rfl | exact Or.inr trivial | apply And.intro))
     rintro ⟨v8,v9,v10,m2⟩ h Q2 hN2 hT2 hX2
     have h:match_often_l2 rec N p0 p1 m2 v8 v9 v10=some r:=h
     cases m2 with
     | zero=>exact nomatch (show (none:Option _)=some _ from h)
     | succ m2=>
     rw [match_often_l2] at h
     rw [q_cm hE] at h
     cbv
     refine L_rgJ hE lay_ok h 4 (fun j41:Bool=>[(41,fB j41)]) (fun j41=>[]) (fun j41 h=>?_) (fun j41 h=>?_)<;>cbv
     · refine L_if hE h (fun h=>?_) (fun h=>?_)<;>cbv
       · cases h;(cbv;(try simp only [e_rnil hR]);repeat' (first | exact trivial | exact rfl | exact Or.inr trivial | apply And.intro))
       cases h;(cbv;(try simp only [e_rnil hR]);repeat' (first | exact trivial | exact rfl | exact Or.inr trivial | apply And.intro))
     refine L_if hE h (fun h=>?_) (fun h=>?_)<;>cbv
     · refine L_rowN hE hR h fun r11 h=>?_;cbv
       refine L_listB hE hR h (fun _ e=>hrec e) rfl (by subst hR;rfl) flat_B fun l12 h=>?_;cbv
       refine L_keep hE lay_ok Tryz.call223 Tryz.func223 rfl ?_
       intro A3 E3 Q3 hE3 hf3 hQ3;cbv
       refine L_for hE3 lay_ok 5 (fun g:Bool × Int ×(List Bool)× Nat=>[(0,.lst 3),(1,.lst 4),(5,fB g.1),(7,.lst 3),(9,fI .i64 g.2.1)]) (fun g=>[(3,.list 4 1 (R _ cB g.2.2.1))]) (fun g=>match_often_l4 (match_often_l2 rec N p0 p1 m2) v10 v8 l12 g.2.2.2 g.1 g.2.1 g.2.2.1=some r) (fun g=>g.2.2.2) (_,_,_,N) h ?_ ?_
       · (cbv;(try simp only [e_rnil hR]);repeat' (first | exact trivial | exact rfl | exact Or.inr trivial | apply And.intro))
       rintro ⟨v13,v14,v15,m4⟩ h Q4 hN4 hT4 hX4
       have h:match_often_l4 (match_often_l2 rec N p0 p1 m2) v10 v8 l12 m4 v13 v14 v15=some r:=h
       cases m4 with
       | zero=>exact nomatch (show (none:Option _)=some _ from h)
       | succ m4=>
       rw [match_often_l4] at h
       rw [q_ar hE,q_cm hE,q_ll hE,←hR] at h
       cbv
       refine L_if hE3 h (fun h=>?_) (fun h=>?_)<;>cbv
       · refine L_rgJ hE3 lay_ok h 5 (fun j44:Bool=>[(5,fB j44)]) (fun j44=>[]) (fun j44 h=>?_) (fun j44 h=>?_)<;>cbv
         · refine L_if hE3 h (fun h=>?_) (fun h=>?_)<;>cbv
           · cases h;(cbv;(try simp only [e_rnil hR]);repeat' (first | exact trivial | exact rfl | exact Or.inr trivial | apply And.intro))
           refine L_row hE3 hR h fun r16 h=>?_;cbv
           refine L_row hE3 hR h fun r17 h=>?_;cbv
           refine L_if hE3 h (fun h=>?_) (fun h=>?_)<;>cbv
           · refine L_row hE3 hR h fun r18 h=>?_;cbv
             refine L_row hE3 hR h fun r19 h=>?_;cbv
             cases h;(cbv;(try simp only [e_rnil hR]);repeat' (first | exact trivial | exact rfl | exact Or.inr trivial | apply And.intro))
           cases h;(cbv;(try simp only [e_rnil hR]);repeat' (first | exact trivial | exact rfl | exact Or.inr trivial | apply And.intro))
         refine L_rgJ hE3 lay_ok h 5 (fun j45:(List Bool)=>[]) (fun j45=>[(3,.list 4 1 (R _ cB j45))]) (fun j45 h=>?_) (fun j45 h=>?_)<;>cbv
         · refine L_row hE3 hR h fun r20 h=>?_;cbv
           refine L_row hE3 hR h fun r21 h=>?_;cbv
           refine L_if hE3 h (fun h=>?_) (fun h=>?_)<;>cbv
           · refine L_row hE3 hR h fun r22 h=>?_;cbv
             refine L_row hE3 hR h fun r23 h=>?_;cbv
             refine L_put hE3 hR h fun l24 e h=>?_;cbv at e;rw [e];clear e
             cases h;(cbv;(try simp only [e_rnil hR]);repeat' (first | exact trivial | exact rfl | exact Or.inr trivial | apply And.intro))
           refine L_row hE3 hR h fun r25 h=>?_;cbv
           refine L_row hE3 hR h fun r26 h=>?_;cbv
           refine L_row hE3 hR h fun r27 h=>?_;cbv
           refine L_row hE3 hR h fun r28 h=>?_;cbv
           refine L_put hE3 hR h fun l29 e h=>?_;cbv at e;rw [e];clear e
           cases h;(cbv;(try simp only [e_rnil hR]);repeat' (first | exact trivial | exact rfl | exact Or.inr trivial | apply And.intro))
         refine hN4 _ (_,_,_,m4) [] h (Nat.lt_succ_self _) trivial ?_;(cbv;(try simp only [e_rnil hR]);repeat' (first | exact trivial | exact rfl | exact Or.inr trivial | apply And.intro))
       refine hX4 _ _ ?_;cbv
       refine And.left (hQ3 _ _ rfl ?_);cbv
       refine L_if hE h (fun h=>?_) (fun h=>?_)<;>cbv
       · refine hX2 _ _ ?_;cbv
         exact And.left (hQ _ _ rfl (.inl ⟨_,rfl,by cases h;subst hR;rfl⟩))
       refine hN2 _ (_,_,_,m2) [(1,4)] h (Nat.lt_succ_self _) ⟨hf _,hf _,trivial⟩ ?_;(cbv;(try simp only [e_rnil hR]);repeat' (first | exact trivial | exact rfl | exact Or.inr trivial | apply And.intro))
     refine hX2 _ _ ?_;cbv
     exact And.left (hQ _ _ rfl (.inl ⟨_,rfl,by cases h;subst hR;rfl⟩))
   refine hN1 _ (_,_,m1) [(1,2)] h (Nat.lt_succ_self _) ⟨hf _,hf _,trivial⟩ ?_;(cbv;(try simp only [e_rnil hR]);repeat' (first | exact trivial | exact rfl | exact Or.inr trivial | apply And.intro))
 refine hX1 _ _ ?_;cbv
 refine L_listB hE hR h (fun _ e=>slices_Clone_159_w e) rfl (by subst hR;rfl) flat_B fun l30 h=>?_;cbv
 refine L_for hE lay_ok 3 (fun g:Int ×(List Bool)×(List Bool)× Nat=>[(7,.lst 1),(9,.lst 2),(10,fI .i64 g.1),(30,.lst 2)]) (fun g=>[(1,.list 4 1 (R _ cB g.2.1)),(2,.list 4 1 (R _ cB g.2.2.1))]) (fun g=>match_often_l5 rec N p0 p1 g.2.2.2 g.1 g.2.1 g.2.2.1=some r) (fun g=>g.2.2.2) (_,_,_,N) h ?_ ?_
 · (cbv;(try simp only [e_rnil hR]);repeat' (first | exact trivial | exact rfl | exact Or.inr trivial | apply And.intro))
 rintro ⟨v31,v32,v33,m5⟩ h Q5 hN5 hT5 hX5
 have h:match_often_l5 rec N p0 p1 m5 v31 v32 v33=some r:=h
 cases m5 with
 | zero=>exact nomatch (show (none:Option _)=some _ from h)
 | succ m5=>
 rw [match_often_l5] at h
 rw [q_cm hE] at h
 cbv
 refine L_rgJ hE lay_ok h 3 (fun j56:Bool=>[(41,fB j56)]) (fun j56=>[]) (fun j56 h=>?_) (fun j56 h=>?_)<;>cbv
 · refine L_if hE h (fun h=>?_) (fun h=>?_)<;>cbv
   · cases h;(cbv;(try simp only [e_rnil hR]);repeat' (first | exact trivial | exact rfl | exact Or.inr trivial | apply And.intro))
   cases h;(cbv;(try simp only [e_rnil hR]);repeat' (first | exact trivial | exact rfl | exact Or.inr trivial | apply And.intro))
 refine L_if hE h (fun h=>?_) (fun h=>?_)<;>cbv
 · refine L_rowN hE hR h fun r34 h=>?_;cbv
   refine L_listB hE hR h (fun _ e=>hrec e) rfl (by subst hR;rfl) flat_B fun l35 h=>?_;cbv
   refine L_keep hE lay_ok Tryz.call223 Tryz.func223 rfl ?_
   intro A6 E6 Q6 hE6 hf6 hQ6;cbv
   refine L_for hE6 lay_ok 4 (fun g:Bool × Int ×(List Bool)× Nat=>[(0,.lst 2),(1,.lst 3),(5,fB g.1),(7,.lst 2),(9,fI .i64 g.2.1)]) (fun g=>[(2,.list 4 1 (R _ cB g.2.2.1))]) (fun g=>match_often_l7 (match_often_l5 rec N p0 p1 m5) v33 v31 l35 g.2.2.2 g.1 g.2.1 g.2.2.1=some r) (fun g=>g.2.2.2) (_,_,_,N) h ?_ ?_
   · (cbv;(try simp only [e_rnil hR]);repeat' (first | exact trivial | exact rfl | exact Or.inr trivial | apply And.intro))
   rintro ⟨v36,v37,v38,m7⟩ h Q7 hN7 hT7 hX7
   have h:match_often_l7 (match_often_l5 rec N p0 p1 m5) v33 v31 l35 m7 v36 v37 v38=some r:=h
   cases m7 with
   | zero=>exact nomatch (show (none:Option _)=some _ from h)
   | succ m7=>
   rw [match_often_l7] at h
   rw [q_ar hE,q_cm hE,q_ll hE,←hR] at h
   cbv
   refine L_if hE6 h (fun h=>?_) (fun h=>?_)<;>cbv
   · refine L_rgJ hE6 lay_ok h 4 (fun j59:Bool=>[(5,fB j59)]) (fun j59=>[]) (fun j59 h=>?_) (fun j59 h=>?_)<;>cbv
     · refine L_if hE6 h (fun h=>?_) (fun h=>?_)<;>cbv
       · cases h;(cbv;(try simp only [e_rnil hR]);repeat' (first | exact trivial | exact rfl | exact Or.inr trivial | apply And.intro))
       refine L_row hE6 hR h fun r39 h=>?_;cbv
       refine L_row hE6 hR h fun r40 h=>?_;cbv
       refine L_if hE6 h (fun h=>?_) (fun h=>?_)<;>cbv
       · refine L_row hE6 hR h fun r41 h=>?_;cbv
         refine L_row hE6 hR h fun r42 h=>?_;cbv
         cases h;(cbv;(try simp only [e_rnil hR]);repeat' (first | exact trivial | exact rfl | exact Or.inr trivial | apply And.intro))
       cases h;(cbv;(try simp only [e_rnil hR]);repeat' (first | exact trivial | exact rfl | exact Or.inr trivial | apply And.intro))
     refine L_rgJ hE6 lay_ok h 4 (fun j60:(List Bool)=>[]) (fun j60=>[(2,.list 4 1 (R _ cB j60))]) (fun j60 h=>?_) (fun j60 h=>?_)<;>cbv
     · refine L_row hE6 hR h fun r43 h=>?_;cbv
       refine L_row hE6 hR h fun r44 h=>?_;cbv
       refine L_if hE6 h (fun h=>?_) (fun h=>?_)<;>cbv
       · refine L_row hE6 hR h fun r45 h=>?_;cbv
         refine L_row hE6 hR h fun r46 h=>?_;cbv
         refine L_put hE6 hR h fun l47 e h=>?_;cbv at e;rw [e];clear e
         cases h;(cbv;(try simp only [e_rnil hR]);repeat' (first | exact trivial | exact rfl | exact Or.inr trivial | apply And.intro))
       refine L_row hE6 hR h fun r48 h=>?_;cbv
       refine L_row hE6 hR h fun r49 h=>?_;cbv
       refine L_row hE6 hR h fun r50 h=>?_;cbv
       refine L_row hE6 hR h fun r51 h=>?_;cbv
       refine L_put hE6 hR h fun l52 e h=>?_;cbv at e;rw [e];clear e
       cases h;(cbv;(try simp only [e_rnil hR]);repeat' (first | exact trivial | exact rfl | exact Or.inr trivial | apply And.intro))
     refine hN7 _ (_,_,_,m7) [] h (Nat.lt_succ_self _) trivial ?_;(cbv;(try simp only [e_rnil hR]);repeat' (first | exact trivial | exact rfl | exact Or.inr trivial | apply And.intro))
   refine hX7 _ _ ?_;cbv
   refine And.left (hQ6 _ _ rfl ?_);cbv
   refine L_if hE h (fun h=>?_) (fun h=>?_)<;>cbv
   · refine hX5 _ _ ?_;cbv
     exact And.left (hQ _ _ rfl (.inl ⟨_,rfl,by cases h;subst hR;rfl⟩))
   refine hN5 _ (_,_,_,m5) [(1,3)] h (Nat.lt_succ_self _) ⟨hf _,hf _,trivial⟩ ?_;(cbv;(try simp only [e_rnil hR]);repeat' (first | exact trivial | exact rfl | exact Or.inr trivial | apply And.intro))
 refine hX5 _ _ ?_;cbv
 exact And.left (hQ _ _ rfl (.inl ⟨_,rfl,by cases h;subst hR;rfl⟩))
end Gn
end Go.Proofs.YtpplemjjeefpdaaGreatDoor
namespace Go.Proofs.YtpplemjjeefpdaaGreatDoor
open Go Go.RowKit
open Ab Sh
namespace Gn
theorem match_moved_w:∀{N:Nat} {p0:Node} {p1:ByteArray} {p2:List Bool} {r:List Bool},match_moved_g N p0 p1 p2=some r→FunL Tryz.prog 220 [.agg [fI .i64 p0.kind,fI .u64 (p0.set.a.toNat:Int),fI .u64 (p0.set.b.toNat:Int),fI .u64 (p0.set.c.toNat:Int),fI .u64 (p0.set.d.toNat:Int),.t (.slc (rw _ nodeRow p0.kids)),fI .i64 p0.min,fI .i64 p0.max],fS p1,.t (.slc (rw _ cB p2))] 4 1 (rw _ cB r):=by
 intro N
 induction N with
 | zero=>intros;rename_i h;exact nomatch (show (none:Option _)=some _ from h)
 | succ N ih=>
 intro p0 p1 p2 r h
 refine list_w lay_ok Tryz.call220 Tryz.func220 rfl ?_
 intro A W E Q R hE hR hf hQ;rcases W with ⟨ar,cm,conj,cv,sl,sc,ct,sa,ss,ll,_,_,_,_,mi,mx,_,_,_⟩
 rw [←hR]
 rw [match_moved_g] at h
 rw [q_cm hE,q_ll hE,←hR] at h
 cbv
 refine L_zro hE hR h (by decide) fun l1 e h=>?_;cbv at e;rw [e];clear e
 refine L_cd hE lay_ok ?_;cbv
 refine L_if hE h (fun h=>?_) (fun h=>?_)<;>cbv
 · refine L_for hE lay_ok 2 (fun g:Int ×(List Bool)× Nat=>[(7,.lst 1),(15,.lst 1),(22,fI .i64 g.1)]) (fun g=>[(1,.list 4 1 (R _ cB g.2.1))]) (fun g=>match_moved_l1 p0 p1 p2 g.2.2 g.1 g.2.1=some r) (fun g=>g.2.2) (_,_,N) h ?_ ?_
   · (cbv;(try simp only [e_rnil hR]);repeat' (first | exact trivial | exact rfl | exact Or.inr trivial | apply And.intro))
   rintro ⟨v2,v3,m1⟩ h Q1 hN1 hT1 hX1
   have h:match_moved_l1 p0 p1 p2 m1 v2 v3=some r:=h
   cases m1 with
   | zero=>exact nomatch (show (none:Option _)=some _ from h)
   | succ m1=>
   rw [match_moved_l1] at h
   rw [q_ar hE,q_cm hE,q_sl hE,q_sa hE] at h
   cbv
   refine L_if hE h (fun h=>?_) (fun h=>?_)<;>cbv
   · refine L_tail hE lay_ok (by kernel_rfl) 16 (by kernel_rfl) ?_;cbv
     refine L_row hE hR h fun r4 h=>?_;cbv
     refine L_if hE h (fun h=>?_) (fun h=>?_)<;>cbv
     · refine L_if hE h (fun h=>?_) (fun h=>?_)<;>cbv
       · refine L_if hE h (fun h=>?_) (fun h=>?_)<;>cbv
         · refine L_if hE h (fun h=>?_) (fun h=>?_)<;>cbv
           · refine L_if hE h (fun h=>?_) (fun h=>?_)<;>cbv
             · refine L_sin hE h fun h=>?_
               refine L_if hE h (fun h=>?_) (fun h=>?_)<;>cbv
               · refine L_pcall hE hR h (fun _ e=>charset_Has_w e) rfl rfl fun a5 h=>?_;cbv
                 refine L_if hE h (fun h=>?_) (fun h=>?_)<;>cbv
                 · refine L_row hE hR h fun r6 h=>?_;cbv
                   refine L_row hE hR h fun r7 h=>?_;cbv
                   refine L_put hE hR h fun l8 e h=>?_;cbv at e;rw [e];clear e
                   refine hN1 _ (_,_,m1) [] h (Nat.lt_succ_self _) trivial ?_;(cbv;(try simp only [e_rnil hR]);repeat' (first | exact trivial | exact rfl | exact Or.inr trivial | apply And.intro))
                 exact nomatch h
               exact nomatch h
             exact nomatch h
           exact nomatch h
         exact nomatch h
       exact nomatch h
     refine L_if hE h (fun h=>?_) (fun h=>?_)<;>cbv
     · exact nomatch h
     refine L_if hE h (fun h=>?_) (fun h=>?_)<;>cbv
     · exact nomatch h
     refine L_if hE h (fun h=>?_) (fun h=>?_)<;>cbv
     · exact nomatch h
     refine L_if hE h (fun h=>?_) (fun h=>?_)<;>cbv
     · exact nomatch h
     refine L_if hE h (fun h=>?_) (fun h=>?_)<;>cbv
     · exact nomatch h
     refine L_if hE h (fun h=>?_) (fun h=>?_)<;>cbv
     · exact nomatch h
     refine L_row hE hR h fun r9 h=>?_;cbv
     refine L_row hE hR h fun r10 h=>?_;cbv
     refine L_put hE hR h fun l11 e h=>?_;cbv at e;rw [e];clear e
     refine hN1 _ (_,_,m1) [] h (Nat.lt_succ_self _) trivial ?_;(cbv;(try simp only [e_rnil hR]);repeat' (first | exact trivial | exact rfl | exact Or.inr trivial | apply And.intro))
   refine hX1 _ _ ?_;cbv
   exact And.left (hQ _ _ rfl (.inl ⟨_,rfl,by cases h;subst hR;rfl⟩))
 refine L_cd hE lay_ok ?_;cbv
 refine L_if hE h (fun h=>?_) (fun h=>?_)<;>cbv
 · refine L_cpy hE hR h (fun _=>rfl) fun l12 e h=>?_;cbv at e;rw [e];clear e
   refine L_for hE lay_ok 2 (fun g:Int ×(List Bool)× Nat=>[(7,.lst 1),(50,fI .i64 g.1)]) (fun g=>[(1,.list 4 1 (R _ cB g.2.1))]) (fun g=>match_moved_l2 (match_moved_g N) p0 p1 g.2.2 g.1 g.2.1=some r) (fun g=>g.2.2) (_,_,N) h ?_ ?_
   · (cbv;(try simp only [e_rnil hR]);repeat' (first | exact trivial | exact rfl | exact Or.inr trivial | apply And.intro))
   rintro ⟨v13,v14,m2⟩ h Q2 hN2 hT2 hX2
   have h:match_moved_l2 (match_moved_g N) p0 p1 m2 v13 v14=some r:=h
   cases m2 with
   | zero=>exact nomatch (show (none:Option _)=some _ from h)
   | succ m2=>
   rw [match_moved_l2] at h
   rw [q_ar hE,q_cm hE,q_ll hE,←hR] at h
   cbv
   refine L_if hE h (fun h=>?_) (fun h=>?_)<;>cbv
   · refine L_rowN hE hR h fun r15 h=>?_;cbv
     refine L_listB hE hR h (fun _ e=>ih e) rfl (by subst hR;rfl) flat_B fun l16 h=>?_;cbv
     refine hN2 _ (_,_,m2) [(1,3)] h (Nat.lt_succ_self _) ⟨hf _,hf _,trivial⟩ ?_;(cbv;(try simp only [e_rnil hR]);repeat' (first | exact trivial | exact rfl | exact Or.inr trivial | apply And.intro))
   refine hX2 _ _ ?_;cbv
   exact And.left (hQ _ _ rfl (.inl ⟨_,rfl,by cases h;subst hR;rfl⟩))
 refine L_cd hE lay_ok ?_;cbv
 refine L_if hE h (fun h=>?_) (fun h=>?_)<;>cbv
 · refine L_for hE lay_ok 2 (fun g:Int ×(List Bool)× Nat=>[(7,.lst 1),(15,.lst 1),(64,fI .i64 g.1)]) (fun g=>[(1,.list 4 1 (R _ cB g.2.1))]) (fun g=>match_moved_l3 (match_moved_g N) N p0 p1 p2 g.2.2 g.1 g.2.1=some r) (fun g=>g.2.2) (_,_,N) h ?_ ?_
   · (cbv;(try simp only [e_rnil hR]);repeat' (first | exact trivial | exact rfl | exact Or.inr trivial | apply And.intro))
   rintro ⟨v17,v18,m3⟩ h Q3 hN3 hT3 hX3
   have h:match_moved_l3 (match_moved_g N) N p0 p1 p2 m3 v17 v18=some r:=h
   cases m3 with
   | zero=>exact nomatch (show (none:Option _)=some _ from h)
   | succ m3=>
   rw [match_moved_l3] at h
   rw [q_cm hE,q_ll hE,←hR] at h
   cbv
   refine L_if hE h (fun h=>?_) (fun h=>?_)<;>cbv
   · refine L_rowN hE hR h fun r19 h=>?_;cbv
     refine L_list hE hR h (fun _ e=>ih e) (by subst hR;rfl) rfl fun l20 h=>?_;cbv
     refine L_keep hE lay_ok Tryz.call223 Tryz.func223 rfl ?_
     intro A4 E4 Q4 hE4 hf4 hQ4;cbv
     refine L_for hE4 lay_ok 4 (fun g:Bool × Int ×(List Bool)× Nat=>[(0,.lst 1),(1,.lst 3),(5,fB g.1),(7,.lst 1),(9,fI .i64 g.2.1)]) (fun g=>[(1,.list 4 1 (R _ cB g.2.2.1))]) (fun g=>match_moved_l5 (match_moved_l3 (match_moved_g N) N p0 p1 p2 m3) v17 v18 l20 g.2.2.2 g.1 g.2.1 g.2.2.1=some r) (fun g=>g.2.2.2) (_,_,_,N) h ?_ ?_
     · (cbv;(try simp only [e_rnil hR]);repeat' (first | exact trivial | exact rfl | exact Or.inr trivial | apply And.intro))
     rintro ⟨v21,v22,v23,m5⟩ h Q5 hN5 hT5 hX5
     have h:match_moved_l5 (match_moved_l3 (match_moved_g N) N p0 p1 p2 m3) v17 v18 l20 m5 v21 v22 v23=some r:=h
     cases m5 with
     | zero=>exact nomatch (show (none:Option _)=some _ from h)
     | succ m5=>
     rw [match_moved_l5] at h
     rw [q_ar hE,q_cm hE,q_ll hE,←hR] at h
     cbv
     refine L_if hE4 h (fun h=>?_) (fun h=>?_)<;>cbv
     · refine L_rgJ hE4 lay_ok h 4 (fun j7:Bool=>[(5,fB j7)]) (fun j7=>[]) (fun j7 h=>?_) (fun j7 h=>?_)<;>cbv
       · refine L_if hE4 h (fun h=>?_) (fun h=>?_)<;>cbv
         · cases h;(cbv;(try simp only [e_rnil hR]);repeat' (first | exact trivial | exact rfl | exact Or.inr trivial | apply And.intro))
         refine L_row hE4 hR h fun r24 h=>?_;cbv
         refine L_row hE4 hR h fun r25 h=>?_;cbv
         refine L_if hE4 h (fun h=>?_) (fun h=>?_)<;>cbv
         · refine L_row hE4 hR h fun r26 h=>?_;cbv
           refine L_row hE4 hR h fun r27 h=>?_;cbv
           cases h;(cbv;(try simp only [e_rnil hR]);repeat' (first | exact trivial | exact rfl | exact Or.inr trivial | apply And.intro))
         cases h;(cbv;(try simp only [e_rnil hR]);repeat' (first | exact trivial | exact rfl | exact Or.inr trivial | apply And.intro))
       refine L_rgJ hE4 lay_ok h 4 (fun j8:(List Bool)=>[]) (fun j8=>[(1,.list 4 1 (R _ cB j8))]) (fun j8 h=>?_) (fun j8 h=>?_)<;>cbv
       · refine L_row hE4 hR h fun r28 h=>?_;cbv
         refine L_row hE4 hR h fun r29 h=>?_;cbv
         refine L_if hE4 h (fun h=>?_) (fun h=>?_)<;>cbv
         · refine L_row hE4 hR h fun r30 h=>?_;cbv
           refine L_row hE4 hR h fun r31 h=>?_;cbv
           refine L_put hE4 hR h fun l32 e h=>?_;cbv at e;rw [e];clear e
           cases h;(cbv;(try simp only [e_rnil hR]);repeat' (first | exact trivial | exact rfl | exact Or.inr trivial | apply And.intro))
         refine L_row hE4 hR h fun r33 h=>?_;cbv
         refine L_row hE4 hR h fun r34 h=>?_;cbv
         refine L_row hE4 hR h fun r35 h=>?_;cbv
         refine L_row hE4 hR h fun r36 h=>?_;cbv
         refine L_put hE4 hR h fun l37 e h=>?_;cbv at e;rw [e];clear e
         cases h;(cbv;(try simp only [e_rnil hR]);repeat' (first | exact trivial | exact rfl | exact Or.inr trivial | apply And.intro))
       refine hN5 _ (_,_,_,m5) [] h (Nat.lt_succ_self _) trivial ?_;(cbv;(try simp only [e_rnil hR]);repeat' (first | exact trivial | exact rfl | exact Or.inr trivial | apply And.intro))
     refine hX5 _ _ ?_;cbv
     refine And.left (hQ4 _ _ rfl ?_);cbv
     refine hN3 _ (_,_,m3) [] h (Nat.lt_succ_self _) trivial ?_;(cbv;(try simp only [e_rnil hR]);repeat' (first | exact trivial | exact rfl | exact Or.inr trivial | apply And.intro))
   refine hX3 _ _ ?_;cbv
   exact And.left (hQ _ _ rfl (.inl ⟨_,rfl,by cases h;subst hR;rfl⟩))
 refine L_if hE h (fun h=>?_) (fun h=>?_)<;>cbv
 · refine L_list hE hR h (fun _ e=>match_often_w (fun e=>ih e) e) (by subst hR;rfl) rfl fun l38 h=>?_;cbv
   exact And.left (hQ _ _ rfl (.inl ⟨_,rfl,by cases h;subst hR;rfl⟩))
 exact And.left (hQ _ _ rfl (.inl ⟨_,rfl,by cases h;subst hR;rfl⟩))
theorem match_Ends_w {N:Nat} {p0:Node} {p1:ByteArray} {p2:Int} {r:List Int} (h:match_Ends_g N p0 p1 p2=some r):FunL Tryz.prog 217 [.agg [fI .i64 p0.kind,fI .u64 (p0.set.a.toNat:Int),fI .u64 (p0.set.b.toNat:Int),fI .u64 (p0.set.c.toNat:Int),fI .u64 (p0.set.d.toNat:Int),.t (.slc (rw _ nodeRow p0.kids)),fI .i64 p0.min,fI .i64 p0.max],fS p1,fI .i64 p2] 3 1 (rw _ (cI .i64) r):=by
 refine list_w lay_ok Tryz.call217 Tryz.func217 rfl ?_
 intro A W E Q R hE hR hf hQ;rcases W with ⟨ar,cm,conj,cv,sl,sc,ct,sa,ss,ll,_,_,_,_,mi,mx,_,_,_⟩
 rw [←hR]
 unfold match_Ends_g at h
 rw [q_ar hE,q_cm hE,q_sl hE] at h
 cbv
 refine L_rgJ hE lay_ok h 1 (fun j1:Bool=>[(23,fB j1)]) (fun j1=>[]) (fun j1 h=>?_) (fun j1 h=>?_)<;>cbv
 · refine L_call hE hR h (fun _ e=>regex_Right_w e) (by subst hR;rfl) rfl fun a1 h=>?_;cbv
   refine L_if hE h (fun h=>?_) (fun h=>?_)<;>cbv
   · cases h;(cbv;(try simp only [e_rnil hR]);repeat' (first | exact trivial | exact rfl | exact Or.inr trivial | apply And.intro))
   refine L_if hE h (fun h=>?_) (fun h=>?_)<;>cbv
   · cases h;(cbv;(try simp only [e_rnil hR]);repeat' (first | exact trivial | exact rfl | exact Or.inr trivial | apply And.intro))
   cases h;(cbv;(try simp only [e_rnil hR]);repeat' (first | exact trivial | exact rfl | exact Or.inr trivial | apply And.intro))
 refine L_if hE h (fun h=>?_) (fun h=>?_)<;>cbv
 · exact And.left (hQ _ _ rfl (.inr ⟨rfl,by cases h;rfl⟩))
 refine L_zro hE hR h (by decide) fun l2 e h=>?_;cbv at e;rw [e];clear e
 refine L_row hE hR h fun r3 h=>?_;cbv
 refine L_row hE hR h fun r4 h=>?_;cbv
 refine L_put hE hR h fun l5 e h=>?_;cbv at e;rw [e];clear e
 refine L_listB hE hR h (fun _ e=>match_moved_w e) rfl (by subst hR;rfl) flat_B fun l6 h=>?_;cbv
 refine L_for hE lay_ok 3 (fun g:Int ×(List Int)× Nat=>[(7,.lst 1),(8,.lst 3),(27,.lst 1),(28,.lst 1),(30,.elt 1 p2 0),(33,.lst 1),(34,.lst 2),(36,fI .i64 g.1)]) (fun g=>[(3,.list 3 1 (R _ (cI .i64) g.2.1))]) (fun g=>match_Ends_l1 l6 g.2.2 g.1 g.2.1=some r) (fun g=>g.2.2) (_,_,N) h ?_ ?_
 · (cbv;(try simp only [e_rnil hR]);repeat' (first | exact trivial | exact rfl | exact Or.inr trivial | apply And.intro))
 rintro ⟨v7,v8,m1⟩ h Q1 hN1 hT1 hX1
 have h:match_Ends_l1 l6 m1 v7 v8=some r:=h
 cases m1 with
 | zero=>exact nomatch (show (none:Option _)=some _ from h)
 | succ m1=>
 rw [match_Ends_l1] at h
 rw [q_ar hE,q_cm hE,q_ll hE,←hR] at h
 cbv
 refine L_if hE h (fun h=>?_) (fun h=>?_)<;>cbv
 · refine L_row hE hR h fun r9 h=>?_;cbv
   refine L_row hE hR h fun r10 h=>?_;cbv
   refine L_cdJ hE lay_ok h 4 (fun j3:(List Int)=>[(8,.lst 3)]) (fun j3=>[(3,.list 3 1 (R _ (cI .i64) j3))]) (fun j3 h=>?_) (fun j3 h=>?_)<;>cbv
   · refine L_if hE h (fun h=>?_) (fun h=>?_)<;>cbv
     · refine L_appL hE hR h rfl (hf _) (fun _=>rfl) (by decide) fun l11 e h=>?_;cbv at e;rw [e];clear e
       cases h;(cbv;(try simp only [e_rnil hR]);repeat' (first | exact trivial | exact rfl | exact Or.inr trivial | apply And.intro))
     cases h;(cbv;(try simp only [e_rnil hR]);repeat' (first | exact trivial | exact rfl | exact Or.inr trivial | apply And.intro))
   refine hN1 _ (_,_,m1) [] h (Nat.lt_succ_self _) trivial ?_;(cbv;(try simp only [e_rnil hR]);repeat' (first | exact trivial | exact rfl | exact Or.inr trivial | apply And.intro))
 refine hX1 _ _ ?_;cbv
 exact And.left (hQ _ _ rfl (.inl ⟨_,rfl,by cases h;subst hR;rfl⟩))
theorem match_Match_w {N:Nat} {p0:Node} {p1:ByteArray} {r:Bool} (h:match_Match_g N p0 p1=some r):FunS Tryz.prog 215 [.agg [fI .i64 p0.kind,fI .u64 (p0.set.a.toNat:Int),fI .u64 (p0.set.b.toNat:Int),fI .u64 (p0.set.c.toNat:Int),fI .u64 (p0.set.d.toNat:Int),.t (.slc (rw _ nodeRow p0.kids)),fI .i64 p0.min,fI .i64 p0.max],fS p1] (match_Match_s rw) r:=by
 refine fun_w lay_ok Tryz.call215 Tryz.func215 rfl ?_
 intro A W E Q R hE hR hf hQ;rcases W with ⟨ar,cm,conj,cv,sl,sc,ct,sa,ss,ll,_,_,_,_,mi,mx,_,_,_⟩
 rw [←hR]
 unfold match_Match_g at h
 rw [q_sl hE] at h
 cbv
 refine L_list hE hR h (fun _ e=>match_Ends_w e) (by subst hR;rfl) rfl fun l1 h=>?_;cbv
 refine L_bare hE hR h (fun _ e=>slices_Contains_150_w e) rfl (by subst hR;rfl) (fun _=>rfl) fun a2 h=>?_;cbv
 exact And.left (hQ _ _ _ rfl rfl (by cases h;subst hR;rfl))
end Gn
end Go.Proofs.YtpplemjjeefpdaaGreatDoor
