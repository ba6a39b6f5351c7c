/- Texts that the proof leans on. -/
import Derived.Test.YtpplemjjeefpdaaGreatDoorK229
set_option linter.unusedVariables false
set_option linter.unusedSimpArgs false
set_option maxRecDepth 100000
set_option maxHeartbeats 4000000
namespace Go.Proofs.YtpplemjjeefpdaaGreatDoor
open Go
open Sh Gn Soo
namespace Pl
def ltM (a b:GMatcher):Prop:=Mt.cmp (toM a) (toM b)<0
def neM (a b:GMatcher):Bool:= !(conj [sc .eql a.Name b.Name,cm .eql a.Op b.Op,sc .eql a.Value b.Value])
def eqM (a b:GMatcher):Bool:=conj [sc .eql a.Name b.Name,cm .eql a.Op b.Op,sc .eql a.Value b.Value]
theorem eqM_iff (a b:GMatcher):eqM a b=true↔a=b:=by
 unfold eqM
 rw [conj3,sc_eql,cm_eql,sc_eql]
 simp only [Bool.and_eq_true,decide_eq_true_eq]
 constructor
 · rintro ⟨h1,h2,h3⟩;cases a;cases b;simp_all
 · rintro rfl;simp
theorem neM_iff (a b:GMatcher):neM a b=true↔a≠b:=by
 rw [Ne,←eqM_iff];unfold neM eqM;simp
theorem l3M_eq (v3:Int):∀(m:Nat) (a b:Int) (cur:List GMatcher),selector_Order_l3 v3 m a b cur=gl3 cMatcher (⟨ByteArray.empty,0,ByteArray.empty⟩:GMatcher) neM v3 m a b cur:=by
 intro m
 induction m with
 | zero=>intros;rfl
 | succ m ih=>intro a b cur;rw [selector_Order_l3,gl3];simp only [ih];rfl
theorem l2M_eq (N:Nat) (l:List GMatcher):∀(m:Nat) (a:Int),selector_Order_l2 N l m a=gl2 cMatcher (⟨ByteArray.empty,0,ByteArray.empty⟩:GMatcher) neM eqM N l m a:=by
 intro m
 induction m with
 | zero=>intros;rfl
 | succ m ih=>intro a;rw [selector_Order_l2,gl2];simp only [ih,l3M_eq];rfl
theorem l3N_eq (v3:Int):∀(m:Nat) (a b:Int) (cur:List ByteArray),selector_NamesW_l4 v3 m a b cur=gl3 cS ByteArray.empty (sc .neq) v3 m a b cur:=by
 intro m
 induction m with
 | zero=>intros;rfl
 | succ m ih=>intro a b cur;rw [selector_NamesW_l4,gl3];simp only [ih]
theorem l2N_eq (N:Nat) (l:List ByteArray):∀(m:Nat) (a:Int),selector_NamesW_l3 N l m a=gl2 cS ByteArray.empty (sc .neq) (sc .eql) N l m a:=by
 intro m
 induction m with
 | zero=>intros;rfl
 | succ m ih=>intro a;rw [selector_NamesW_l3,gl2];simp only [ih,l3N_eq]
theorem ltM_irr (a:GMatcher):¬ ltM a a:=Sl.lt_irr _
theorem ltM_tr (a b c:GMatcher) (h:ltM a b) (k:ltM b c):ltM a c:=Sl.lt_tr _ _ _ h k
theorem toM_inj {x y:GMatcher} (h:toM x=toM y):x=y:=by cases x;cases y;cases h;rfl
theorem ltM_tri (a b:GMatcher):ltM a b∨a=b∨ltM b a:=by
 rcases Sl.lt_tri (toM a) (toM b) with h | h | h
 · exact .inl h
 · exact .inr (.inl (toM_inj h))
 · exact .inr (.inr h)
theorem order_p {N:Nat} (hN:1000≤N) (l:List GMatcher) (hl:l.length≤100):∃r,selector_Order_g N l=some r∧r.Pairwise ltM∧(∀x,x∈r↔x∈l)∧r.length≤l.length:=by
 have hc:slices_Clone_M_g l=some l:=by
  cases l with
  | nil=>rfl
  | cons a r=>
    unfold slices_Clone_M_g nilq app
    simp only [Option.bind_some]
    rw [if_pos (by simp;simp at hl;omega)]
    rfl
 have hs:(sortM l).Pairwise fun a b=>a=b∨ltM a b:=by
  have:=List.pairwise_mergeSort (le:=fun x y=> !(ltOf cfM) y x) (fun a b c h1 h2=>by
   simp only [Bool.not_eq_true'] at h1 h2 ⊢
   exact swoM.ntrans _ _ _ h2 h1) (fun a b=>by
   simp only [Bool.or_eq_true,Bool.not_eq_true']
   rcases ltM_tri a b with h | h | h
   · exact .inl ((ltM_not _ _).2 fun g=>ltM_irr _ (ltM_tr _ _ _ h g))
   · subst h;exact .inl (swoM.irrefl _)
   · exact .inr ((ltM_not _ _).2 fun g=>ltM_irr _ (ltM_tr _ _ _ h g))) l
  refine this.imp fun {a b} h=>?_
  simp only [Bool.not_eq_true'] at h
  rcases ltM_tri a b with g | g | g
  · exact .inr g
  · exact .inl g
  · exact absurd g ((ltM_not _ _).1 h)
 have hsl:(sortM l).length=l.length:=by unfold sortM;rw [List.length_mergeSort]
 have hmem:∀x,x∈sortM l↔x∈l:=fun x=>(List.mergeSort_perm _ _).mem_iff
 unfold selector_Order_g
 rw [hc,Option.bind_some]
 unfold sortM_g sortK_g
 rw [if_pos (by omega),Option.bind_some,cm_lss,ll_eq,hsl]
 by_cases h2:l.length<2
 · rw [decide_eq_true (by omega),_root_.cond_true]
   refine ⟨_,rfl,?_,hmem,by omega⟩
   match e:sortM l with
   | []=>exact List.Pairwise.nil
   | [a]=>exact List.pairwise_singleton _ _
   | a::b::r=>rw [e] at hsl;simp at hsl;omega
 · rw [decide_eq_false (by omega),_root_.cond_false,l2M_eq]
   obtain ⟨r,h1,h3,h4,h5⟩:=gl2_ok (c:=cMatcher) (z:=(⟨ByteArray.empty,0,ByteArray.empty⟩:GMatcher)) neM_iff eqM_iff ltM_tr hs (by omega) (N:=N) (by omega) N 1 (by omega) (by omega)
    (by
     match e:sortM l with
     | []=>exact List.Pairwise.nil
     | a::r=>exact List.pairwise_singleton _ _) (by omega)
   exact ⟨r,h1,h3,fun x=>(h4 x).trans (hmem x),by omega⟩
theorem cmp_le {a b:Mt.M}:Mt.cmp a b≤0↔¬ Mt.cmp b a<0:=by
 constructor
 · intro h g
   rcases Int.lt_or_eq_of_le h with h | h
   · exact Sl.lt_irr _ (Sl.lt_tr _ _ _ h g)
   · rw [Sl.cmp_zero.1 h] at g;exact Sl.lt_irr _ g
 · intro h
   rcases Sl.lt_tri a b with g | g | g
   · exact Int.le_of_lt g
   · rw [Sl.cmp_zero.2 g];omega
   · exact absurd g h
theorem rorder_p {N:Nat} (hN:20000≤N) (l:List GMatcher) (hl:l.length≤100) (hz:∀x∈l,x.Value.size≤1200∧x.Name.size≤100):∃r,r23_Order_g N l=some r∧r.Pairwise ltM∧(∀x,x∈r↔x∈l)∧r.length≤l.length:=by
 unfold r23_Order_g
 rw [order1_eq]
 obtain ⟨r,h1,h2,h3,h4⟩:=go1_ok (cA:=cMatcher) (key:=id) (cmp:=r22_Compare_g N) (cf:=fun a b=>Mt.cmp (toM a) (toM b)) (p0:=l)
  (fun x hx y hy=>rmcmp_p hN x y (by have:=(hz x hx).1;omega) (by have:=(hz y hy).1;omega) (by have:=(hz x hx).2;omega) (by have:=(hz y hy).2;omega))
  ltM_irr ltM_tr ltM_tri (fun a b=>cmp_le) (by omega) (N:=N) (by omega) N 0 [] (by omega) (by simp) (fun y hy=>by cases hy) List.Pairwise.nil (fun z hz=>.inl fun y hy=>by cases hy) (by unfold left;exact List.countP_le_length) (by omega)
 exact ⟨r,h1,h2,fun x=>(h3 x).trans ⟨fun ⟨z,a,b⟩=>b▸a,fun h=>⟨x,h,rfl⟩⟩,h4⟩
theorem orders_eq {N:Nat} (hN:20000≤N) (l:List GMatcher) (hl:l.length≤100) (hz:∀x∈l,x.Value.size≤1200∧x.Name.size≤100):∃r,selector_Order_g N l=some r∧r23_Order_g N l=some r∧(∀x,x∈r↔x∈l)∧r.length≤l.length:=by
 obtain ⟨r,h1,h2,h3,h4⟩:=order_p (N:=N) (by omega) l hl
 obtain ⟨q,g1,g2,g3,g4⟩:=rorder_p hN l hl hz
 have e:r=q:=Sl.rise_uniq ltM_irr ltM_tr r q h2 g2 fun x=>(h3 x).trans (g3 x).symm
 exact ⟨r,h1,e▸g1,h3,h4⟩
def ltN (a b:ByteArray):Prop:=Mt.cmpL a.data.toList b.data.toList<0
theorem ltN_iff {a b:ByteArray}:ltN a b↔a.data.toList<b.data.toList:=Sl.cmpL_neg
theorem ltN_irr (a:ByteArray):¬ ltN a a:=fun h=>List.lt_irrefl _ (ltN_iff.1 h)
theorem ltN_tr (a b c:ByteArray) (h:ltN a b) (k:ltN b c):ltN a c:=ltN_iff.2 (List.lt_trans (ltN_iff.1 h) (ltN_iff.1 k))
theorem ltN_tri (a b:ByteArray):ltN a b∨a=b∨ltN b a:=by
 rcases Sl.listlt_tri a.data.toList b.data.toList with h | h | h
 · exact .inl (ltN_iff.2 h)
 · exact .inr (.inl (Sl.dat_inj h))
 · exact .inr (.inr (ltN_iff.2 h))
theorem cmpN_le {a b:ByteArray}:Mt.cmpL a.data.toList b.data.toList≤0↔¬ ltN b a:=by
 constructor
 · intro h g
   rcases Int.lt_or_eq_of_le h with h | h
   · exact ltN_irr _ (ltN_tr _ _ _ h g)
   · rw [Sl.dat_inj (Sl.cmpL_zero.1 h)] at g;exact ltN_irr _ g
 · intro h
   rcases ltN_tri a b with g | g | g
   · exact Int.le_of_lt g
   · subst g;rw [Sl.cmpL_zero.2 rfl];omega
   · exact absurd g h
theorem nq_iff (a b:ByteArray):sc .neq a b=true↔a≠b:=by rw [sc_neq];simp
theorem eq_iff_ (a b:ByteArray):sc .eql a b=true↔a=b:=by rw [sc_eql];simp
theorem names_l1 {N:Nat} (l:List GMatcher) (hl:l.length≤100):∀(m k:Nat) (out:List ByteArray),k≤l.length→out.length≤k→l.length<k+m→
 selector_NamesW_l1 N l m k out=((sortN_g (out++(l.drop k).map GMatcher.Name)).bind fun l5=>cond (cm .lss (ll (rw _ cS l5)) 2) (some l5) (selector_NamesW_l3 N l5 N 1)):=by
 intro m
 induction m with
 | zero=>intro k out h1 h2 h3;omega
 | succ m ih=>
   intro k out h1 h2 h3
   rw [selector_NamesW_l1,cm_lss,cond_dec,ll_eq]
   by_cases c:k<l.length
   · rw [if_pos (by omega),at_get c,Option.bind_some,inc1 (by omega)]
     unfold app
     rw [if_pos (by simp;omega),Option.bind_some,ih (k+1) _ (by omega) (by simp;omega) (by omega),List.drop_eq_getElem_cons c,List.map_cons,List.append_assoc]
     rfl
   · rw [if_neg (by omega),List.drop_of_length_le (by omega),List.map_nil,List.append_nil]
theorem names_p {N:Nat} (hN:1000≤N) (l:List GMatcher) (hl:l.length≤100):∃r,selector_NamesW_g N l=some r∧r.Pairwise ltN∧(∀x,x∈r↔∃z∈l,z.Name=x)∧r.length≤l.length:=by
 obtain ⟨n,hn⟩:∃n,n=l.map GMatcher.Name:=⟨_,rfl⟩
 have hnl:n.length=l.length:=by rw [hn,List.length_map]
 have hsl:(isort n).length=l.length:=by rw [(isort_perm n).length_eq,hnl]
 have hmem:∀x,x∈isort n↔∃z∈l,z.Name=x:=fun x=>by rw [(isort_perm n).mem_iff,hn,List.mem_map]
 have hs:(isort n).Pairwise fun a b=>a=b∨ltN a b:=(isort_rise n).imp fun {a b} h=>by
  rcases List.le_iff_lt_or_eq.1 h with g | g
  · exact .inr (ltN_iff.2 g)
  · exact .inl (Sl.dat_inj g)
 unfold selector_NamesW_g
 have e0:=names_l1 (N:=N) l hl N 0 [] (by omega) (by simp) (by omega)
 rw [show ((0:Nat):Int)=0 from rfl] at e0
 rw [e0,List.nil_append,List.drop_zero,←hn]
 unfold sortN_g sortK_g
 rw [if_pos (by omega),Option.bind_some,cm_lss,ll_eq,hsl]
 by_cases h2:l.length<2
 · rw [decide_eq_true (by omega),_root_.cond_true]
   refine ⟨_,rfl,?_,hmem,by omega⟩
   match e:isort n with
   | []=>exact List.Pairwise.nil
   | [a]=>exact List.pairwise_singleton _ _
   | a::b::r=>rw [e] at hsl;simp at hsl;omega
 · rw [decide_eq_false (by omega),_root_.cond_false,l2N_eq]
   obtain ⟨r,h1,h3,h4,h5⟩:=gl2_ok (c:=cS) (z:=ByteArray.empty) nq_iff eq_iff_ ltN_tr hs (by omega) (N:=N) (by omega) N 1 (by omega) (by omega)
    (by
     match e:isort n with
     | []=>exact List.Pairwise.nil
     | a::r=>exact List.pairwise_singleton _ _) (by omega)
   exact ⟨r,h1,h3,fun x=>(h4 x).trans (hmem x),by omega⟩
theorem rnames_p {N:Nat} (hN:20000≤N) (l:List GMatcher) (hl:l.length≤100) (hz:∀x∈l,x.Value.size≤1200∧x.Name.size≤100):∃r,r23_Names_g N l=some r∧r.Pairwise ltN∧(∀x,x∈r↔∃z∈l,z.Name=x)∧r.length≤l.length:=by
 unfold r23_Names_g
 rw [names1_eq]
 exact go1_ok (cA:=cS) (key:=GMatcher.Name) (cmp:=r02_Compare_g N) (cf:=fun a b=>Mt.cmpL a.data.toList b.data.toList) (p0:=l)
  (fun x hx y hy=>rcmp_p hN (by have:=(hz x hx).2;omega) (by have:=(hz y hy).2;omega))
  ltN_irr ltN_tr ltN_tri (fun a b=>cmpN_le) (by omega) (N:=N) (by omega) N 0 [] (by omega) (by simp) (fun y hy=>by cases hy) List.Pairwise.nil (fun z hz=>.inl fun y hy=>by cases hy) (by unfold left;exact List.countP_le_length) (by omega)
theorem namess_eq {N:Nat} (hN:20000≤N) (l:List GMatcher) (hl:l.length≤100) (hz:∀x∈l,x.Value.size≤1200∧x.Name.size≤100):∃r,selector_NamesW_g N l=some r∧r23_Names_g N l=some r∧r.Pairwise ltN∧(∀x,x∈r↔∃z∈l,z.Name=x)∧r.length≤l.length:=by
 obtain ⟨r,h1,h2,h3,h4⟩:=names_p (N:=N) (by omega) l hl
 obtain ⟨q,g1,g2,g3,g4⟩:=rnames_p hN l hl hz
 have e:r=q:=Sl.rise_uniq ltN_irr ltN_tr r q h2 g2 fun x=>(h3 x).trans (g3 x).symm
 exact ⟨r,h1,e▸g1,h2,h3,h4⟩
def ofN (l:List GMatcher) (n:ByteArray):List GMatcher:=l.filter fun m=>decide (m.Name=n)
theorem of_p (l:List GMatcher) (hl:l.length≤100) (n:ByteArray):selector_Of_g l n=some (ofN l n):=by unfold selector_Of_g;rw [if_pos (by omega)];rfl
theorem sworksW_p:l23_worksW_g 800000=some true:=by decide+kernel
end Pl
end Go.Proofs.YtpplemjjeefpdaaGreatDoor
namespace Go.Proofs.YtpplemjjeefpdaaGreatDoor
open Go Go.RowKit
open Ab Sh
namespace Gn
theorem r13_join_w {N:Nat} {p0:Int} {p1:List Node} {r:Node} (h:r13_join_g N p0 p1=some r):FunS Tryz.prog 129 [fI .i64 p0,.t (.slc (rw _ nodeRow p1))] (r13_join_s rw) r:=by
 refine fun_w lay_ok Tryz.call129 Tryz.func129 rfl ?_
 intro A W E Q R hE hR hf hQ;rcases W with ⟨ar,cm,conj,cv,sl,sc,ct,sa,ss,ll,_,_,_,_,mi,mx,_,_,_⟩
 rw [←hR]
 unfold r13_join_g at h
 skip
 cbv
 refine L_for hE lay_ok 1 (fun g:Int ×(List Node)× Nat=>[(5,.lst 1),(6,fI .i64 g.1)]) (fun g=>[(1,.list 81 8 (R _ nodeRow g.2.1))]) (fun g=>r13_join_l1 p0 p1 g.2.2 g.1 g.2.1=some r) (fun g=>g.2.2) (_,_,N) h ?_ ?_
 · (cbv;(try simp only [e_rnil hR]);repeat' (first | exact trivial | exact rfl | exact Or.inr trivial | apply And.intro))
 rintro ⟨v1,v2,m1⟩ h Q1 hN1 hT1 hX1
 have h:r13_join_l1 p0 p1 m1 v1 v2=some r:=h
 cases m1 with
 | zero=>exact nomatch (show (none:Option _)=some _ from h)
 | succ m1=>
 rw [r13_join_l1] at h
 rw [q_ar hE,q_cm hE,q_ll hE,←hR] at h
 cbv
 refine L_if hE h (fun h=>?_) (fun h=>?_)<;>cbv
 · refine L_rowN hE hR h fun r3 h=>?_;cbv
   refine L_cdJ hE lay_ok h 2 (fun j2:(List Node)=>[(5,.lst 1)]) (fun j2=>[(1,.list 81 8 (R _ nodeRow j2))]) (fun j2 h=>?_) (fun j2 h=>?_)<;>cbv
   · refine L_if hE h (fun h=>?_) (fun h=>?_)<;>cbv
     · refine L_rowN hE hR h fun r4 h=>?_;cbv
       refine L_app hE hR h (hf _) nodeRow_len (by decide) fun l5 e h=>?_;cbv at e;rw [e];clear e
       cases h;(cbv;(try simp only [e_rnil hR]);repeat' (first | exact trivial | exact rfl | exact Or.inr trivial | apply And.intro))
     refine L_rowN hE hR h fun r6 h=>?_;cbv
     refine L_lit hR (e:=nodeRow) h (node_new hR) fun l7 e h=>?_;cbv at e;rw [e];clear e
     refine L_app hE hR h (hf _) nodeRow_len (by decide) fun l8 e h=>?_;cbv at e;rw [e];clear e
     cases h;(cbv;(try simp only [e_rnil hR]);repeat' (first | exact trivial | exact rfl | exact Or.inr trivial | apply And.intro))
   refine hN1 _ (_,_,m1) [] h (Nat.lt_succ_self _) trivial ?_;(cbv;(try simp only [e_rnil hR]);repeat' (first | exact trivial | exact rfl | exact Or.inr trivial | apply And.intro))
 refine hX1 _ _ ?_;cbv
 refine L_if hE h (fun h=>?_) (fun h=>?_)<;>cbv
 · refine L_rowN hE hR h fun r9 h=>?_;cbv
   refine L_rowN hE hR h fun r10 h=>?_;cbv
   exact And.left (hQ _ _ _ rfl rfl (by cases h;subst hR;rfl))
 exact And.left (hQ _ _ _ rfl rfl (by cases h;subst hR;rfl))
theorem r13_bad_w {p0:Int} {p1:Int} {r:Gr13_P} (h:r13_bad_g p0 p1=some r):FunS Tryz.prog 130 [fI .i64 p0,fI .i64 p1] (r13_bad_s rw) r:=by
 refine fun_w lay_ok Tryz.call130 Tryz.func130 rfl ?_
 intro A W E Q R hE hR hf hQ;rcases W with ⟨ar,cm,conj,cv,sl,sc,ct,sa,ss,ll,_,_,_,_,mi,mx,_,_,_⟩
 unfold r13_bad_g at h
 skip
 cbv
 exact And.left (hQ _ _ _ rfl rfl (by cases h;subst hR;rfl))
theorem r13_other_w {p0:ByteArray} {p1:Int} {r:Gr13_P} (h:r13_other_g p0 p1=some r):FunS Tryz.prog 85 [fS p0,fI .i64 p1] (r13_other_s rw) r:=by
 refine fun_w lay_ok Tryz.call85 Tryz.func85 rfl ?_
 intro A W E Q R hE hR hf hQ;rcases W with ⟨ar,cm,conj,cv,sl,sc,ct,sa,ss,ll,_,_,_,_,mi,mx,_,_,_⟩
 unfold r13_other_g at h
 rw [q_cm hE,q_sl hE] at h
 cbv
 refine L_if hE h (fun h=>?_) (fun h=>?_)<;>cbv
 · refine L_call hE hR h (fun _ e=>r13_bad_w e) rfl rfl fun a1 h=>?_;cbv
   exact And.left (hQ _ _ _ rfl rfl (by cases h;subst hR;rfl))
 refine L_call hE hR h (fun _ e=>r13_bad_w e) rfl rfl fun a2 h=>?_;cbv
 exact And.left (hQ _ _ _ rfl rfl (by cases h;subst hR;rfl))
theorem r13_is_w {p0:ByteArray} {p1:Int} {p2:Int} {r:Bool} (h:r13_is_g p0 p1 p2=some r):FunS Tryz.prog 128 [fS p0,fI .i64 p1,fI .u8 p2] (r13_is_s rw) r:=by
 refine fun_w lay_ok Tryz.call128 Tryz.func128 rfl ?_
 intro A W E Q R hE hR hf hQ;rcases W with ⟨ar,cm,conj,cv,sl,sc,ct,sa,ss,ll,_,_,_,_,mi,mx,_,_,_⟩
 unfold r13_is_g at h
 rw [q_cm hE,q_sl hE,q_sa hE] at h
 cbv
 refine L_rgJ hE lay_ok h 0 (fun j1:Bool=>[(6,fB j1)]) (fun j1=>[]) (fun j1 h=>?_) (fun j1 h=>?_)<;>cbv
 · refine L_if hE h (fun h=>?_) (fun h=>?_)<;>cbv
   · refine L_sin hE h fun h=>?_
     cases h;(cbv;(try simp only [e_rnil hR]);repeat' (first | exact trivial | exact rfl | exact Or.inr trivial | apply And.intro))
   cases h;(cbv;(try simp only [e_rnil hR]);repeat' (first | exact trivial | exact rfl | exact Or.inr trivial | apply And.intro))
 exact And.left (hQ _ _ _ rfl rfl (by cases h;subst hR;rfl))
theorem r13_among_w {N:Nat} {p0:Int} {p1:ByteArray} {r:Bool} (h:r13_among_g N p0 p1=some r):FunS Tryz.prog 167 [fI .u8 p0,fS p1] (r13_among_s rw) r:=by
 refine fun_w lay_ok Tryz.call167 Tryz.func167 rfl ?_
 intro A W E Q R hE hR hf hQ;rcases W with ⟨ar,cm,conj,cv,sl,sc,ct,sa,ss,ll,_,_,_,_,mi,mx,_,_,_⟩
 unfold r13_among_g at h
 skip
 cbv
 refine L_for hE lay_ok 0 (fun g:Int × Nat=>[(4,fB false),(5,fI .i64 g.1)]) (fun g=>[]) (fun g=>r13_among_l1 p0 p1 g.2 g.1=some r) (fun g=>g.2) (_,N) h ?_ ?_
 · (cbv;(try simp only [e_rnil hR]);repeat' (first | exact trivial | exact rfl | exact Or.inr trivial | apply And.intro))
 rintro ⟨v1,m1⟩ h Q1 hN1 hT1 hX1
 have h:r13_among_l1 p0 p1 m1 v1=some r:=h
 cases m1 with
 | zero=>exact nomatch (show (none:Option _)=some _ from h)
 | succ m1=>
 rw [r13_among_l1] at h
 rw [q_ar hE,q_cm hE,q_sl hE,q_sa hE] at h
 cbv
 refine L_if hE h (fun h=>?_) (fun h=>?_)<;>cbv
 · refine L_sin hE h fun h=>?_
   refine L_if hE h (fun h=>?_) (fun h=>?_)<;>cbv
   · refine hT1 _ ?_
     exact And.left (hQ _ _ _ rfl rfl (by cases h;subst hR;rfl))
   refine hN1 _ (_,m1) [] h (Nat.lt_succ_self _) trivial ?_;(cbv;(try simp only [e_rnil hR]);repeat' (first | exact trivial | exact rfl | exact Or.inr trivial | apply And.intro))
 refine hX1 _ _ ?_;cbv
 exact And.left (hQ _ _ _ rfl rfl (by cases h;subst hR;rfl))
end Gn
end Go.Proofs.YtpplemjjeefpdaaGreatDoor
namespace Go.Proofs.YtpplemjjeefpdaaGreatDoor
open Go Go.RowKit
open Ab Sh
namespace Gn
theorem r13_Digits_w {r:CSet} (h:r13_Digits_g=some r):FunS Tryz.prog 179 [] (r13_Digits_s rw) r:=by
 refine fun_w lay_ok Tryz.call179 Tryz.func179 rfl ?_
 intro A W E Q R hE hR hf hQ;rcases W with ⟨ar,cm,conj,cv,sl,sc,ct,sa,ss,ll,_,_,_,_,mi,mx,_,_,_⟩
 unfold r13_Digits_g at h
 skip
 cbv
 refine L_call hE hR h (fun _ e=>r12_Between_w e) rfl rfl fun a1 h=>?_;cbv
 exact And.left (hQ _ _ _ rfl rfl (by cases h;subst hR;rfl))
theorem r13_Words_w {r:CSet} (h:r13_Words_g=some r):FunS Tryz.prog 180 [] (r13_Words_s rw) r:=by
 refine fun_w lay_ok Tryz.call180 Tryz.func180 rfl ?_
 intro A W E Q R hE hR hf hQ;rcases W with ⟨ar,cm,conj,cv,sl,sc,ct,sa,ss,ll,_,_,_,_,mi,mx,_,_,_⟩
 unfold r13_Words_g at h
 skip
 cbv
 refine L_call hE hR h (fun _ e=>r12_Between_w e) rfl rfl fun a1 h=>?_;cbv
 refine L_call hE hR h (fun _ e=>r12_Between_w e) rfl rfl fun a2 h=>?_;cbv
 refine L_call hE hR h (fun _ e=>r12_Or_w e) rfl rfl fun a3 h=>?_;cbv
 refine L_call hE hR h (fun _ e=>r12_Between_w e) rfl rfl fun a4 h=>?_;cbv
 refine L_call hE hR h (fun _ e=>r12_Or_w e) rfl rfl fun a5 h=>?_;cbv
 refine L_call hE hR h (fun _ e=>r12_With_w e) rfl rfl fun a6 h=>?_;cbv
 exact And.left (hQ _ _ _ rfl rfl (by cases h;subst hR;rfl))
theorem r13_hex_w {p0:Int} {r:Int} (h:r13_hex_g p0=some r):FunS Tryz.prog 181 [fI .u8 p0] (r13_hex_s rw) r:=by
 refine fun_w lay_ok Tryz.call181 Tryz.func181 rfl ?_
 intro A W E Q R hE hR hf hQ;rcases W with ⟨ar,cm,conj,cv,sl,sc,ct,sa,ss,ll,_,_,_,_,mi,mx,_,_,_⟩
 unfold r13_hex_g at h
 rw [q_ar hE,q_cm hE,q_cv hE] at h
 cbv
 refine L_rgJ hE lay_ok h 0 (fun j1:Bool=>[(8,fB j1)]) (fun j1=>[]) (fun j1 h=>?_) (fun j1 h=>?_)<;>cbv
 · refine L_if hE h (fun h=>?_) (fun h=>?_)<;>cbv
   · cases h;(cbv;(try simp only [e_rnil hR]);repeat' (first | exact trivial | exact rfl | exact Or.inr trivial | apply And.intro))
   cases h;(cbv;(try simp only [e_rnil hR]);repeat' (first | exact trivial | exact rfl | exact Or.inr trivial | apply And.intro))
 refine L_if hE h (fun h=>?_) (fun h=>?_)<;>cbv
 · exact And.left (hQ _ _ _ rfl rfl (by cases h;subst hR;rfl))
 refine L_rgJ hE lay_ok h 0 (fun j2:Bool=>[(17,fB j2)]) (fun j2=>[]) (fun j2 h=>?_) (fun j2 h=>?_)<;>cbv
 · refine L_if hE h (fun h=>?_) (fun h=>?_)<;>cbv
   · cases h;(cbv;(try simp only [e_rnil hR]);repeat' (first | exact trivial | exact rfl | exact Or.inr trivial | apply And.intro))
   cases h;(cbv;(try simp only [e_rnil hR]);repeat' (first | exact trivial | exact rfl | exact Or.inr trivial | apply And.intro))
 refine L_if hE h (fun h=>?_) (fun h=>?_)<;>cbv
 · exact And.left (hQ _ _ _ rfl rfl (by cases h;subst hR;rfl))
 exact And.left (hQ _ _ _ rfl rfl (by cases h;subst hR;rfl))
theorem r13_escape_w {N:Nat} {p0:ByteArray} {p1:Int} {r:Gr13_P} (h:r13_escape_g N p0 p1=some r):FunS Tryz.prog 170 [fS p0,fI .i64 p1] (r13_escape_s rw) r:=by
 refine fun_w lay_ok Tryz.call170 Tryz.func170 rfl ?_
 intro A W E Q R hE hR hf hQ;rcases W with ⟨ar,cm,conj,cv,sl,sc,ct,sa,ss,ll,_,_,_,_,mi,mx,_,_,_⟩
 unfold r13_escape_g at h
 rw [q_ar hE,q_cm hE,q_cv hE,q_sl hE,q_sa hE] at h
 cbv
 refine L_if hE h (fun h=>?_) (fun h=>?_)<;>cbv
 · refine L_call hE hR h (fun _ e=>r13_bad_w e) rfl rfl fun a1 h=>?_;cbv
   exact And.left (hQ _ _ _ rfl rfl (by cases h;subst hR;rfl))
 refine L_sin hE h fun h=>?_
 refine L_if hE h (fun h=>?_) (fun h=>?_)<;>cbv
 · refine L_call hE hR h (fun _ e=>r13_Digits_w e) rfl rfl fun a2 h=>?_;cbv
   exact And.left (hQ _ _ _ rfl rfl (by cases h;subst hR;rfl))
 refine L_if hE h (fun h=>?_) (fun h=>?_)<;>cbv
 · refine L_call hE hR h (fun _ e=>r13_Words_w e) rfl rfl fun a3 h=>?_;cbv
   exact And.left (hQ _ _ _ rfl rfl (by cases h;subst hR;rfl))
 refine L_if hE h (fun h=>?_) (fun h=>?_)<;>cbv
 · refine L_for hE lay_ok 1 (fun g:Int × Int × Nat=>[(6,fI .i64 g.1),(7,fI .i64 g.2.1)]) (fun g=>[]) (fun g=>r13_escape_l1 p0 p1 g.2.2 g.1 g.2.1=some r) (fun g=>g.2.2) (_,_,N) h ?_ ?_
   · (cbv;(try simp only [e_rnil hR]);repeat' (first | exact trivial | exact rfl | exact Or.inr trivial | apply And.intro))
   rintro ⟨v4,v5,m1⟩ h Q1 hN1 hT1 hX1
   have h:r13_escape_l1 p0 p1 m1 v4 v5=some r:=h
   cases m1 with
   | zero=>exact nomatch (show (none:Option _)=some _ from h)
   | succ m1=>
   rw [r13_escape_l1] at h
   rw [q_ar hE,q_cm hE,q_sl hE,q_sa hE] at h
   cbv
   refine L_if hE h (fun h=>?_) (fun h=>?_)<;>cbv
   · refine L_if hE h (fun h=>?_) (fun h=>?_)<;>cbv
     · refine L_call hE hR h (fun _ e=>r13_bad_w e) rfl rfl fun a6 h=>?_;cbv
       refine hT1 _ ?_
       exact And.left (hQ _ _ _ rfl rfl (by cases h;subst hR;rfl))
     refine L_sin hE h fun h=>?_
     refine L_call hE hR h (fun _ e=>r13_hex_w e) rfl rfl fun a7 h=>?_;cbv
     refine L_if hE h (fun h=>?_) (fun h=>?_)<;>cbv
     · refine L_call hE hR h (fun _ e=>r13_bad_w e) rfl rfl fun a8 h=>?_;cbv
       refine hT1 _ ?_
       exact And.left (hQ _ _ _ rfl rfl (by cases h;subst hR;rfl))
     refine L_sin hE h fun h=>?_
     refine L_call hE hR h (fun _ e=>r13_hex_w e) rfl rfl fun a9 h=>?_;cbv
     refine hN1 _ (_,_,m1) [] h (Nat.lt_succ_self _) trivial ?_;(cbv;(try simp only [e_rnil hR]);repeat' (first | exact trivial | exact rfl | exact Or.inr trivial | apply And.intro))
   refine hX1 _ _ ?_;cbv
   refine L_call hE hR h (fun _ e=>r12_Between_w e) rfl rfl fun a10 h=>?_;cbv
   exact And.left (hQ _ _ _ rfl rfl (by cases h;subst hR;rfl))
 refine L_call hE hR h (fun _ e=>r13_among_w e) rfl rfl fun a11 h=>?_;cbv
 refine L_if hE h (fun h=>?_) (fun h=>?_)<;>cbv
 · refine L_call hE hR h (fun _ e=>r12_Between_w e) rfl rfl fun a12 h=>?_;cbv
   exact And.left (hQ _ _ _ rfl rfl (by cases h;subst hR;rfl))
 refine L_call hE hR h (fun _ e=>r13_bad_w e) rfl rfl fun a13 h=>?_;cbv
 exact And.left (hQ _ _ _ rfl rfl (by cases h;subst hR;rfl))
theorem r13_sign_w {N:Nat} {p0:ByteArray} {p1:Int} {r:Gr13_P} (h:r13_sign_g N p0 p1=some r):FunS Tryz.prog 186 [fS p0,fI .i64 p1] (r13_sign_s rw) r:=by
 refine fun_w lay_ok Tryz.call186 Tryz.func186 rfl ?_
 intro A W E Q R hE hR hf hQ;rcases W with ⟨ar,cm,conj,cv,sl,sc,ct,sa,ss,ll,_,_,_,_,mi,mx,_,_,_⟩
 unfold r13_sign_g at h
 rw [q_ar hE,q_cm hE,q_cv hE,q_sl hE,q_sa hE] at h
 cbv
 refine L_rgJ hE lay_ok h 1 (fun j1:Bool=>[(14,fB j1)]) (fun j1=>[]) (fun j1 h=>?_) (fun j1 h=>?_)<;>cbv
 · refine L_if hE h (fun h=>?_) (fun h=>?_)<;>cbv
   · cases h;(cbv;(try simp only [e_rnil hR]);repeat' (first | exact trivial | exact rfl | exact Or.inr trivial | apply And.intro))
   refine L_sin hE h fun h=>?_
   refine L_call hE hR h (fun _ e=>r13_among_w e) rfl rfl fun a1 h=>?_;cbv
   cases h;(cbv;(try simp only [e_rnil hR]);repeat' (first | exact trivial | exact rfl | exact Or.inr trivial | apply And.intro))
 refine L_if hE h (fun h=>?_) (fun h=>?_)<;>cbv
 · refine L_call hE hR h (fun _ e=>r13_other_w e) rfl rfl fun a2 h=>?_;cbv
   exact And.left (hQ _ _ _ rfl rfl (by cases h;subst hR;rfl))
 refine L_sin hE h fun h=>?_
 refine L_if hE h (fun h=>?_) (fun h=>?_)<;>cbv
 · refine L_call hE hR h (fun _ e=>r13_escape_w e) rfl rfl fun a3 h=>?_;cbv
   exact And.left (hQ _ _ _ rfl rfl (by cases h;subst hR;rfl))
 refine L_tail hE lay_ok (by kernel_rfl) 12 (by kernel_rfl) ?_;cbv
 refine L_sin hE h fun h=>?_
 refine L_sin hE h fun h=>?_
 refine L_pcall hE hR h (fun _ e=>r12_Between_w e) rfl rfl fun a4 h=>?_;cbv
 exact And.left (hQ _ _ _ rfl rfl (by cases h;subst hR;rfl))
end Gn
end Go.Proofs.YtpplemjjeefpdaaGreatDoor
namespace Go.Proofs.YtpplemjjeefpdaaGreatDoor
open Go Go.RowKit
open Ab Sh
namespace Gn
theorem r13_item_w {N:Nat} {p0:ByteArray} {p1:Int} {r:Gr13_P} (h:r13_item_g N p0 p1=some r):FunS Tryz.prog 176 [fS p0,fI .i64 p1] (r13_item_s rw) r:=by
 refine fun_w lay_ok Tryz.call176 Tryz.func176 rfl ?_
 intro A W E Q R hE hR hf hQ;rcases W with ⟨ar,cm,conj,cv,sl,sc,ct,sa,ss,ll,_,_,_,_,mi,mx,_,_,_⟩
 unfold r13_item_g at h
 rw [q_ar hE,q_cm hE] at h
 cbv
 refine L_call hE hR h (fun _ e=>r13_sign_w e) rfl rfl fun a1 h=>?_;cbv
 refine L_rgJ hE lay_ok h 2 (fun j1:Bool=>[(26,fB j1)]) (fun j1=>[]) (fun j1 h=>?_) (fun j1 h=>?_)<;>cbv
 · refine L_if hE h (fun h=>?_) (fun h=>?_)<;>cbv
   · cases h;(cbv;(try simp only [e_rnil hR]);repeat' (first | exact trivial | exact rfl | exact Or.inr trivial | apply And.intro))
   refine L_if hE h (fun h=>?_) (fun h=>?_)<;>cbv
   · cases h;(cbv;(try simp only [e_rnil hR]);repeat' (first | exact trivial | exact rfl | exact Or.inr trivial | apply And.intro))
   refine L_call hE hR h (fun _ e=>r13_is_w e) rfl rfl fun a2 h=>?_;cbv
   cases h;(cbv;(try simp only [e_rnil hR]);repeat' (first | exact trivial | exact rfl | exact Or.inr trivial | apply And.intro))
 refine L_if hE h (fun h=>?_) (fun h=>?_)<;>cbv
 · exact And.left (hQ _ _ _ rfl rfl (by cases h;subst hR;rfl))
 refine L_call hE hR h (fun _ e=>r13_sign_w e) rfl rfl fun a3 h=>?_;cbv
 refine L_if hE h (fun h=>?_) (fun h=>?_)<;>cbv
 · exact And.left (hQ _ _ _ rfl rfl (by cases h;subst hR;rfl))
 refine L_whole hE lay_ok (by kernel_rfl) (by kernel_rfl) ?_;cbv
 refine L_pcall hE hR h (fun _ e=>r12_First_w e) rfl rfl fun a4 h=>?_;cbv
 refine L_pcall hE hR h (fun _ e=>r12_First_w e) rfl rfl fun a5 h=>?_;cbv
 refine L_rgJ hE lay_ok h 11 (fun j2:Bool=>[(50,fB j2)]) (fun j2=>[]) (fun j2 h=>?_) (fun j2 h=>?_)<;>cbv
 · refine L_if hE h (fun h=>?_) (fun h=>?_)<;>cbv
   · cases h;(cbv;(try simp only [e_rnil hR]);repeat' (first | exact trivial | exact rfl | exact Or.inr trivial | apply And.intro))
   cases h;(cbv;(try simp only [e_rnil hR]);repeat' (first | exact trivial | exact rfl | exact Or.inr trivial | apply And.intro))
 refine L_if hE h (fun h=>?_) (fun h=>?_)<;>cbv
 · refine L_call hE hR h (fun _ e=>r13_bad_w e) rfl rfl fun a6 h=>?_;cbv
   exact And.left (hQ _ _ _ rfl rfl (by cases h;subst hR;rfl))
 refine L_tail hE lay_ok (by kernel_rfl) 6 (by kernel_rfl) ?_;cbv
 refine L_pcall hE hR h (fun _ e=>r12_Between_w e) rfl rfl fun a7 h=>?_;cbv
 exact And.left (hQ _ _ _ rfl rfl (by cases h;subst hR;rfl))
theorem r13_class_w {N:Nat} {p0:ByteArray} {p1:Int} {r:Gr13_P} (h:r13_class_g N p0 p1=some r):FunS Tryz.prog 169 [fS p0,fI .i64 p1] (r13_class_s rw) r:=by
 refine fun_w lay_ok Tryz.call169 Tryz.func169 rfl ?_
 intro A W E Q R hE hR hf hQ;rcases W with ⟨ar,cm,conj,cv,sl,sc,ct,sa,ss,ll,_,_,_,_,mi,mx,_,_,_⟩
 unfold r13_class_g at h
 rw [q_ar hE,q_cm hE] at h
 cbv
 refine L_call hE hR h (fun _ e=>r13_is_w e) rfl rfl fun a1 h=>?_;cbv
 refine L_cdJ hE lay_ok h 1 (fun j1:Int=>[(1,fI .i64 j1)]) (fun j1=>[]) (fun j1 h=>?_) (fun j1 h=>?_)<;>cbv
 · refine L_if hE h (fun h=>?_) (fun h=>?_)<;>cbv
   · cases h;(cbv;(try simp only [e_rnil hR]);repeat' (first | exact trivial | exact rfl | exact Or.inr trivial | apply And.intro))
   cases h;(cbv;(try simp only [e_rnil hR]);repeat' (first | exact trivial | exact rfl | exact Or.inr trivial | apply And.intro))
 refine L_call hE hR h (fun _ e=>r13_item_w e) rfl rfl fun a2 h=>?_;cbv
 refine L_if hE h (fun h=>?_) (fun h=>?_)<;>cbv
 · exact And.left (hQ _ _ _ rfl rfl (by cases h;subst hR;rfl))
 refine L_for hE lay_ok 3 (fun g:Int × Int × CSet ×(List Node)× Int × Int × CSet × Bool × Int × Int × Int × CSet × Nat=>[(1,fI .i64 g.1)]) (fun g=>[(1,.box 109 [fI .i64 g.2.1,fI .u64 (g.2.2.1.a.toNat:Int),fI .u64 (g.2.2.1.b.toNat:Int),fI .u64 (g.2.2.1.c.toNat:Int),fI .u64 (g.2.2.1.d.toNat:Int),.t (.slc (R _ nodeRow g.2.2.2.1)),fI .i64 g.2.2.2.2.1,fI .i64 g.2.2.2.2.2.1,fI .u64 (g.2.2.2.2.2.2.1.a.toNat:Int),fI .u64 (g.2.2.2.2.2.2.1.b.toNat:Int),fI .u64 (g.2.2.2.2.2.2.1.c.toNat:Int),fI .u64 (g.2.2.2.2.2.2.1.d.toNat:Int),fB g.2.2.2.2.2.2.2.1,fI .i64 g.2.2.2.2.2.2.2.2.1,fI .i64 g.2.2.2.2.2.2.2.2.2.1,fI .i64 g.2.2.2.2.2.2.2.2.2.2.1]),(2,.box 78 [fI .u64 (g.2.2.2.2.2.2.2.2.2.2.2.1.a.toNat:Int),fI .u64 (g.2.2.2.2.2.2.2.2.2.2.2.1.b.toNat:Int),fI .u64 (g.2.2.2.2.2.2.2.2.2.2.2.1.c.toNat:Int),fI .u64 (g.2.2.2.2.2.2.2.2.2.2.2.1.d.toNat:Int)])]) (fun g=>r13_class_l1 N p0 a1 g.2.2.2.2.2.2.2.2.2.2.2.2 g.1 g.2.1 g.2.2.1 g.2.2.2.1 g.2.2.2.2.1 g.2.2.2.2.2.1 g.2.2.2.2.2.2.1 g.2.2.2.2.2.2.2.1 g.2.2.2.2.2.2.2.2.1 g.2.2.2.2.2.2.2.2.2.1 g.2.2.2.2.2.2.2.2.2.2.1 g.2.2.2.2.2.2.2.2.2.2.2.1=some r) (fun g=>g.2.2.2.2.2.2.2.2.2.2.2.2) (_,_,_,_,_,_,_,_,_,_,_,_,N) h ?_ ?_
 · (cbv;(try simp only [e_rnil hR]);repeat' (first | exact trivial | exact rfl | exact Or.inr trivial | apply And.intro))
 rintro ⟨v3,v4,v5,v6,v7,v8,v9,v10,v11,v12,v13,v14,m1⟩ h Q1 hN1 hT1 hX1
 have h:r13_class_l1 N p0 a1 m1 v3 v4 v5 v6 v7 v8 v9 v10 v11 v12 v13 v14=some r:=h
 cases m1 with
 | zero=>exact nomatch (show (none:Option _)=some _ from h)
 | succ m1=>
 rw [r13_class_l1] at h
 rw [q_ar hE,q_cm hE] at h
 cbv
 refine L_call hE hR h (fun _ e=>r13_is_w e) rfl rfl fun a15 h=>?_;cbv
 refine L_if hE h (fun h=>?_) (fun h=>?_)<;>cbv
 · refine L_call hE hR h (fun _ e=>r13_item_w e) rfl rfl fun a16 h=>?_;cbv
   refine L_if hE h (fun h=>?_) (fun h=>?_)<;>cbv
   · refine hT1 _ ?_
     exact And.left (hQ _ _ _ rfl rfl (by cases h;subst hR;rfl))
   refine L_call hE hR h (fun _ e=>r12_Or_w e) rfl rfl fun a17 h=>?_;cbv
   refine hN1 _ (_,_,_,_,_,_,_,_,_,_,_,_,m1) [] h (Nat.lt_succ_self _) trivial ?_;(cbv;(try simp only [e_rnil hR]);repeat' (first | exact trivial | exact rfl | exact Or.inr trivial | apply And.intro))
 refine hX1 _ _ ?_;cbv
 refine L_cdJ hE lay_ok h 3 (fun j3:CSet=>[]) (fun j3=>[(2,.box 78 [fI .u64 (j3.a.toNat:Int),fI .u64 (j3.b.toNat:Int),fI .u64 (j3.c.toNat:Int),fI .u64 (j3.d.toNat:Int)])]) (fun j3 h=>?_) (fun j3 h=>?_)<;>cbv
 · refine L_if hE h (fun h=>?_) (fun h=>?_)<;>cbv
   · refine L_call hE hR h (fun _ e=>r12_Not_w e) rfl rfl fun a18 h=>?_;cbv
     cases h;(cbv;(try simp only [e_rnil hR]);repeat' (first | exact trivial | exact rfl | exact Or.inr trivial | apply And.intro))
   cases h;(cbv;(try simp only [e_rnil hR]);repeat' (first | exact trivial | exact rfl | exact Or.inr trivial | apply And.intro))
 exact And.left (hQ _ _ _ rfl rfl (by cases h;subst hR;rfl))
theorem r13_rep_w {p0:Node} {p1:Int} {p2:Int} {p3:Int} {r:Gr13_P} (h:r13_rep_g p0 p1 p2 p3=some r):FunS Tryz.prog 163 [.agg [fI .i64 p0.kind,fI .u64 (p0.set.a.toNat:Int),fI .u64 (p0.set.b.toNat:Int),fI .u64 (p0.set.c.toNat:Int),fI .u64 (p0.set.d.toNat:Int),.t (.slc (rw _ nodeRow p0.kids)),fI .i64 p0.min,fI .i64 p0.max],fI .i64 p1,fI .i64 p2,fI .i64 p3] (r13_rep_s rw) r:=by
 refine fun_w lay_ok Tryz.call163 Tryz.func163 rfl ?_
 intro A W E Q R hE hR hf hQ;rcases W with ⟨ar,cm,conj,cv,sl,sc,ct,sa,ss,ll,_,_,_,_,mi,mx,_,_,_⟩
 rw [←hR]
 unfold r13_rep_g at h
 skip
 cbv
 refine L_lit hR (e:=nodeRow) h (node_new hR) fun l1 e h=>?_;cbv at e;rw [e];clear e
 exact And.left (hQ _ _ _ rfl rfl (by cases h;subst hR;rfl))
theorem r13_number_w {N:Nat} {p0:ByteArray} {p1:Int} {r:Int × Gr13_P} (h:r13_number_g N p0 p1=some r):FunS Tryz.prog 171 [fS p0,fI .i64 p1] (r13_number_s rw) r:=by
 refine fun_w lay_ok Tryz.call171 Tryz.func171 rfl ?_
 intro A W E Q R hE hR hf hQ;rcases W with ⟨ar,cm,conj,cv,sl,sc,ct,sa,ss,ll,_,_,_,_,mi,mx,_,_,_⟩
 unfold r13_number_g at h
 skip
 cbv
 refine L_for hE lay_ok 1 (fun g:Int × Int × Nat=>[(6,fI .i64 g.1),(7,fI .i64 g.2.1)]) (fun g=>[]) (fun g=>r13_number_l1 p0 p1 g.2.2 g.1 g.2.1=some r) (fun g=>g.2.2) (_,_,N) h ?_ ?_
 · (cbv;(try simp only [e_rnil hR]);repeat' (first | exact trivial | exact rfl | exact Or.inr trivial | apply And.intro))
 rintro ⟨v1,v2,m1⟩ h Q1 hN1 hT1 hX1
 have h:r13_number_l1 p0 p1 m1 v1 v2=some r:=h
 cases m1 with
 | zero=>exact nomatch (show (none:Option _)=some _ from h)
 | succ m1=>
 rw [r13_number_l1] at h
 rw [q_ar hE,q_cm hE,q_cv hE,q_sl hE,q_sa hE] at h
 cbv
 refine L_rgJ hE lay_ok h 1 (fun j1:Bool=>[(24,fB j1)]) (fun j1=>[]) (fun j1 h=>?_) (fun j1 h=>?_)<;>cbv
 · refine L_if hE h (fun h=>?_) (fun h=>?_)<;>cbv
   · refine L_sin hE h fun h=>?_
     refine L_if hE h (fun h=>?_) (fun h=>?_)<;>cbv
     · refine L_sin hE h fun h=>?_
       cases h;(cbv;(try simp only [e_rnil hR]);repeat' (first | exact trivial | exact rfl | exact Or.inr trivial | apply And.intro))
     cases h;(cbv;(try simp only [e_rnil hR]);repeat' (first | exact trivial | exact rfl | exact Or.inr trivial | apply And.intro))
   cases h;(cbv;(try simp only [e_rnil hR]);repeat' (first | exact trivial | exact rfl | exact Or.inr trivial | apply And.intro))
 refine L_if hE h (fun h=>?_) (fun h=>?_)<;>cbv
 · refine L_cdJ hE lay_ok h 1 (fun j2:Int=>[(7,fI .i64 j2)]) (fun j2=>[]) (fun j2 h=>?_) (fun j2 h=>?_)<;>cbv
   · refine L_if hE h (fun h=>?_) (fun h=>?_)<;>cbv
     · refine L_sin hE h fun h=>?_
       cases h;(cbv;(try simp only [e_rnil hR]);repeat' (first | exact trivial | exact rfl | exact Or.inr trivial | apply And.intro))
     cases h;(cbv;(try simp only [e_rnil hR]);repeat' (first | exact trivial | exact rfl | exact Or.inr trivial | apply And.intro))
   refine hN1 _ (_,_,m1) [] h (Nat.lt_succ_self _) trivial ?_;(cbv;(try simp only [e_rnil hR]);repeat' (first | exact trivial | exact rfl | exact Or.inr trivial | apply And.intro))
 refine hX1 _ _ ?_;cbv
 refine L_if hE h (fun h=>?_) (fun h=>?_)<;>cbv
 · refine L_call hE hR h (fun _ e=>r13_other_w e) rfl rfl fun a3 h=>?_;cbv
   exact And.left (hQ _ _ _ rfl rfl (by cases h;subst hR;rfl))
 refine L_rgJ hE lay_ok h 1 (fun j3:Bool=>[(52,fB j3)]) (fun j3=>[]) (fun j3 h=>?_) (fun j3 h=>?_)<;>cbv
 · refine L_sin hE h fun h=>?_
   refine L_if hE h (fun h=>?_) (fun h=>?_)<;>cbv
   · cases h;(cbv;(try simp only [e_rnil hR]);repeat' (first | exact trivial | exact rfl | exact Or.inr trivial | apply And.intro))
   cases h;(cbv;(try simp only [e_rnil hR]);repeat' (first | exact trivial | exact rfl | exact Or.inr trivial | apply And.intro))
 refine L_if hE h (fun h=>?_) (fun h=>?_)<;>cbv
 · refine L_call hE hR h (fun _ e=>r13_bad_w e) rfl rfl fun a4 h=>?_;cbv
   exact And.left (hQ _ _ _ rfl rfl (by cases h;subst hR;rfl))
 refine L_if hE h (fun h=>?_) (fun h=>?_)<;>cbv
 · refine L_call hE hR h (fun _ e=>r13_bad_w e) rfl rfl fun a5 h=>?_;cbv
   exact And.left (hQ _ _ _ rfl rfl (by cases h;subst hR;rfl))
 exact And.left (hQ _ _ _ rfl rfl (by cases h;subst hR;rfl))
theorem r13_braces_w {N:Nat} {p0:ByteArray} {p1:Node} {p2:Int} {r:Gr13_P} (h:r13_braces_g N p0 p1 p2=some r):FunS Tryz.prog 164 [fS p0,.agg [fI .i64 p1.kind,fI .u64 (p1.set.a.toNat:Int),fI .u64 (p1.set.b.toNat:Int),fI .u64 (p1.set.c.toNat:Int),fI .u64 (p1.set.d.toNat:Int),.t (.slc (rw _ nodeRow p1.kids)),fI .i64 p1.min,fI .i64 p1.max],fI .i64 p2] (r13_braces_s rw) r:=by
 refine fun_w lay_ok Tryz.call164 Tryz.func164 rfl ?_
 intro A W E Q R hE hR hf hQ;rcases W with ⟨ar,cm,conj,cv,sl,sc,ct,sa,ss,ll,_,_,_,_,mi,mx,_,_,_⟩
 rw [←hR]
 unfold r13_braces_g at h
 rw [q_ar hE,q_cm hE] at h
 cbv
 refine L_call hE hR h (fun _ e=>r13_number_w e) rfl rfl fun a1 h=>?_;cbv
 refine L_if hE h (fun h=>?_) (fun h=>?_)<;>cbv
 · exact And.left (hQ _ _ _ rfl rfl (by cases h;subst hR;rfl))
 refine L_rgJ hE lay_ok h 3 (fun j1:Bool=>[(36,fB j1)]) (fun j1=>[]) (fun j1 h=>?_) (fun j1 h=>?_)<;>cbv
 · refine L_call hE hR h (fun _ e=>r13_is_w e) rfl rfl fun a2 h=>?_;cbv
   refine L_if hE h (fun h=>?_) (fun h=>?_)<;>cbv
   · refine L_call hE hR h (fun _ e=>r13_is_w e) rfl rfl fun a3 h=>?_;cbv
     cases h;(cbv;(try simp only [e_rnil hR]);repeat' (first | exact trivial | exact rfl | exact Or.inr trivial | apply And.intro))
   cases h;(cbv;(try simp only [e_rnil hR]);repeat' (first | exact trivial | exact rfl | exact Or.inr trivial | apply And.intro))
 refine L_if hE h (fun h=>?_) (fun h=>?_)<;>cbv
 · refine L_call hE hR h (fun _ e=>r13_rep_w e) (by subst hR;rfl) rfl fun a4 h=>?_;cbv
   exact And.left (hQ _ _ _ rfl rfl (by cases h;subst hR;rfl))
 refine L_call hE hR h (fun _ e=>r13_is_w e) rfl rfl fun a5 h=>?_;cbv
 refine L_cd hE lay_ok ?_;cbv
 refine L_if hE h (fun h=>?_) (fun h=>?_)<;>cbv
 · refine L_call hE hR h (fun _ e=>r13_number_w e) rfl rfl fun a6 h=>?_;cbv
   refine L_if hE h (fun h=>?_) (fun h=>?_)<;>cbv
   · exact And.left (hQ _ _ _ rfl rfl (by cases h;subst hR;rfl))
   refine L_rgJ hE lay_ok h 3 (fun j2:Bool=>[(67,fB j2)]) (fun j2=>[]) (fun j2 h=>?_) (fun j2 h=>?_)<;>cbv
   · refine L_if hE h (fun h=>?_) (fun h=>?_)<;>cbv
     · cases h;(cbv;(try simp only [e_rnil hR]);repeat' (first | exact trivial | exact rfl | exact Or.inr trivial | apply And.intro))
     cases h;(cbv;(try simp only [e_rnil hR]);repeat' (first | exact trivial | exact rfl | exact Or.inr trivial | apply And.intro))
   refine L_if hE h (fun h=>?_) (fun h=>?_)<;>cbv
   · refine L_call hE hR h (fun _ e=>r13_bad_w e) rfl rfl fun a7 h=>?_;cbv
     exact And.left (hQ _ _ _ rfl rfl (by cases h;subst hR;rfl))
   refine L_call hE hR h (fun _ e=>r13_is_w e) rfl rfl fun a8 h=>?_;cbv
   refine L_if hE h (fun h=>?_) (fun h=>?_)<;>cbv
   · refine L_call hE hR h (fun _ e=>r13_other_w e) rfl rfl fun a9 h=>?_;cbv
     exact And.left (hQ _ _ _ rfl rfl (by cases h;subst hR;rfl))
   refine L_call hE hR h (fun _ e=>r13_rep_w e) (by subst hR;rfl) rfl fun a10 h=>?_;cbv
   exact And.left (hQ _ _ _ rfl rfl (by cases h;subst hR;rfl))
 refine L_rgJ hE lay_ok h 3 (fun j3:Bool=>[(67,fB j3)]) (fun j3=>[]) (fun j3 h=>?_) (fun j3 h=>?_)<;>cbv
 · refine L_if hE h (fun h=>?_) (fun h=>?_)<;>cbv
   · cases h;(cbv;(try simp only [e_rnil hR]);repeat' (first | exact trivial | exact rfl | exact Or.inr trivial | apply And.intro))
   cases h;(cbv;(try simp only [e_rnil hR]);repeat' (first | exact trivial | exact rfl | exact Or.inr trivial | apply And.intro))
 refine L_if hE h (fun h=>?_) (fun h=>?_)<;>cbv
 · refine L_call hE hR h (fun _ e=>r13_bad_w e) rfl rfl fun a11 h=>?_;cbv
   exact And.left (hQ _ _ _ rfl rfl (by cases h;subst hR;rfl))
 refine L_call hE hR h (fun _ e=>r13_is_w e) rfl rfl fun a12 h=>?_;cbv
 refine L_if hE h (fun h=>?_) (fun h=>?_)<;>cbv
 · refine L_call hE hR h (fun _ e=>r13_other_w e) rfl rfl fun a13 h=>?_;cbv
   exact And.left (hQ _ _ _ rfl rfl (by cases h;subst hR;rfl))
 refine L_call hE hR h (fun _ e=>r13_rep_w e) (by subst hR;rfl) rfl fun a14 h=>?_;cbv
 exact And.left (hQ _ _ _ rfl rfl (by cases h;subst hR;rfl))
end Gn
end Go.Proofs.YtpplemjjeefpdaaGreatDoor
