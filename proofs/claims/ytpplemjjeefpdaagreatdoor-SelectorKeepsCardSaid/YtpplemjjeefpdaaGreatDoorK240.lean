/- Texts that the proof leans on. -/
import Derived.Test.YtpplemjjeefpdaaGreatDoorK239
import Derived.Test.YtpplemjjeefpdaaGreatDoorK234
set_option linter.unusedVariables false
set_option linter.unusedSimpArgs false
set_option maxRecDepth 100000
set_option maxHeartbeats 4000000
namespace Go.Proofs.YtpplemjjeefpdaaGreatDoor
open Go
open Sh Gn
namespace Pl
def ofM (m:Mt.M):GMatcher:=⟨m.name,m.op,m.val⟩
theorem toMs_app (l:List GMatcher) (m:Mt.M):toMs (l++[ofM m])=toMs l++[m]:=by unfold toMs;rw [List.map_append];rfl
theorem ofMs_toMs (l:List GMatcher):(toMs l).map ofM=l:=by
 unfold toMs
 rw [List.map_map]
 conv=>rhs;rw [←List.map_id l]
 exact List.map_congr_left fun x _=>rfl
def takeVS (g:Sl.Got):List GMatcher × Int × GFault:=match g with | .ok l p=>(l.map ofM,(p:Int),⟨0,0⟩) | .bad e p=>([],0,⟨e,(p:Int)⟩)
theorem mtake_ne {l:List UInt8} {a:Int} {e:Int} {p:Nat} (h:Mt.take l a=.bad e p):e≠0:=by
 unfold Mt.take at h
 split at h
 · cases h;decide
 · split at h
   · cases h;decide
   · split at h
     · cases h;decide
     · split at h
       · cases h
         have:=opBad_ne l (a.toNat+Nm.run Nm.signB true (l.drop a.toNat))
         omega
       · split at h
         · rename_i hr
           cases h
           have:=read_ne hr
           omega
         · split at h
           · rename_i hr
             cases h
             exact hr
           · cases h
section
variable {s:ByteArray} {i:Nat}
theorem pre1 (hi:i≤s.size) (a:UInt8) (ha:a.toNat≠0):strings_HasPrefix_g (ss s (i:Int) (sl s)) (ByteArray.mk #[a])=some (decide (Qu.bt s.data.toList i=a.toNat)):=by
 have h:=prefix_p (ss s (i:Int) (sl s)) [a]
 have:=take1 (ss s (i:Int) (sl s)).data.toList a ha
 rw [ss_end hi,←Qu.bt_drop,Nat.add_zero] at this
 rw [show (ByteArray.mk #[a])=Mt.ofL [a] from rfl,h,ss_end hi]
 exact congrArg some (decide_eq_decide.2 this)
theorem pre2 (hi:i≤s.size) (a b:UInt8) (ha:a.toNat≠0) (hb:b.toNat≠0):strings_HasPrefix_g (ss s (i:Int) (sl s)) (ByteArray.mk #[a,b])=some (decide (Qu.bt s.data.toList i=a.toNat∧Qu.bt s.data.toList (i+1)=b.toNat)):=by
 have h:=prefix_p (ss s (i:Int) (sl s)) [a,b]
 have:=take2 (ss s (i:Int) (sl s)).data.toList a b ha hb
 rw [ss_end hi,←Qu.bt_drop,←Qu.bt_drop,Nat.add_zero] at this
 rw [show (ByteArray.mk #[a,b])=Mt.ofL [a,b] from rfl,h,ss_end hi]
 exact congrArg some (decide_eq_decide.2 this)
theorem swrong_p (hi:i≤s.size):((selector_wrong_g s i).bind fun a=>some (([]:List GMatcher),(0:Int),a))=some (takeVS (Sl.other s.data.toList i)):=by
 unfold selector_wrong_g Sl.other
 rw [cm_geq,cond_dec,sl_eq,size_list]
 by_cases c:s.size≤i
 · rw [if_pos (by omega),if_pos c];rfl
 · rw [if_neg (by omega),if_neg c];rfl
theorem stake_from {N:Nat} (hN:800000≤N) (hs:s.size≤390000):∀(m f i:Nat) (out:List GMatcher),i≤s.size→s.size<i+m→s.size<i+f→out.length≤64→
 selector_Take_l1 N s m i out=some (takeVS (Sl.loop s.data.toList f (toMs out) i)):=by
 intro m
 induction m with
 | zero=>intro f i out h1 h2;omega
 | succ m ih=>
   intro f i out h1 h2 h3 h4
   obtain ⟨f,rfl⟩:∃k,f=k+1:=⟨f-1,by omega⟩
   have hz:(toMs out).length=out.length:=by unfold toMs;rw [List.length_map]
   have hl:=size_list s
   rw [selector_Take_l1,Sl.loop,mtake_p hN hs]
   simp only [cm_eql,cm_lss,cm_neq,cond_not,cond_dec,ite_and,sl_eq,ll_eq,Option.bind_some,hz,hl]
   by_cases c:out.length=64∧i<s.size
   · have c':(out.length:Int)=64∧(i:Int)<(s.size:Int):=by omega
     rw [if_pos c,if_pos c'];rfl
   have c':¬((out.length:Int)=64∧(i:Int)<(s.size:Int)):=by omega
   rw [if_neg c,if_neg c']
   cases hm:Mt.take s.data.toList (i:Int) with
   | bad e p=>
     have:=mtake_ne hm
     simp only [takeV,this,if_false]
     rfl
   | ok x p=>
     have he:=Sl.take_end hm
     rw [hl] at he
     have hout:out.length<64:=by omega
     have ea:app cMatcher out [(⟨x.name,x.op,x.val⟩:GMatcher)]=some (out++[ofM x]):=by unfold app;rw [if_pos (by simp;omega)];rfl
     have q1:=pre1 (s:=s) (i:=p) (by omega) 125 (by decide)
     have q2:=pre1 (s:=s) (i:=p) (by omega) 44 (by decide)
     rw [sl_eq] at q1 q2
     have e1:=inc1 (show p≤100000000 by omega)
     have e2:=inc2 (show p≤100000000 by omega)
     simp only [takeV,if_true,ea,Option.bind_some,ssin_nat (s:=s) (i:=p) (j:=s.size) (by omega) (Nat.le_refl _),_root_.cond_true,q1,q2,cond_not,cond_dec,e1,e2,show (125:UInt8).toNat=125 from rfl,show (44:UInt8).toNat=44 from rfl]
     by_cases d1:Qu.bt s.data.toList p=125
     · rw [if_pos d1,if_pos d1,←toMs_app]
       show _=some ((toMs (out++[ofM x])).map ofM,_,_)
       rw [ofMs_toMs]
     rw [if_neg d1,if_neg d1]
     by_cases d2:Qu.bt s.data.toList p=44
     · have hp:p<s.size:=by rw [←hl];exact Sl.bt_in (by omega)
       have q3:=pre1 (s:=s) (i:=p+1) (by omega) 32 (by decide)
       rw [sl_eq] at q3
       rw [if_pos d2,if_neg (show ¬ Qu.bt s.data.toList p≠44 by omega)]
       simp only [ssin_nat (s:=s) (i:=p+1) (j:=s.size) (by omega) (Nat.le_refl _),_root_.cond_true,q3,Option.bind_some,cond_not,cond_dec,show (32:UInt8).toNat=32 from rfl]
       by_cases d3:Qu.bt s.data.toList (p+1)=32
       · have hp2:p+1<s.size:=by rw [←hl];exact Sl.bt_in (by omega)
         rw [if_pos d3,if_neg (show ¬ Qu.bt s.data.toList (p+1)≠32 by omega),←toMs_app]
         exact ih f (p+2) (out++[ofM x]) (by omega) (by omega) (by omega) (by simp;omega)
       · rw [if_neg d3,if_pos d3]
         exact swrong_p (by omega)
     · rw [if_neg d2,if_pos d2]
       exact swrong_p (by omega)
theorem stake_p {N:Nat} (hN:800000≤N) (hs:s.size≤390000) (p:Int):selector_Take_g N s p=some (takeVS (Sl.take s.data.toList p)):=by
 unfold selector_Take_g Sl.take
 have hl:=size_list s
 simp only [cm_lss,cm_gtr,cond_not,cond_dec,ite_or,sl_eq,Option.bind_some,hl]
 by_cases c:p<0∨(s.size:Int)<p
 · rw [if_pos c,if_pos c];rfl
 obtain ⟨i,rfl⟩:∃i:Nat,p=i:=⟨p.toNat,by omega⟩
 rw [if_neg c,if_neg c,Int.toNat_natCast]
 have q1:=pre1 (s:=s) (i:=i) (by omega) 123 (by decide)
 have q2:=pre2 (s:=s) (i:=i) (by omega) 123 125 (by decide) (by decide)
 rw [sl_eq] at q1 q2
 simp only [ssin_nat (s:=s) (i:=i) (j:=s.size) (by omega) (Nat.le_refl _),_root_.cond_true,q1,q2,Option.bind_some,cond_not,cond_dec,inc1 (show i≤100000000 by omega),inc2 (show i≤100000000 by omega),show (123:UInt8).toNat=123 from rfl,show (125:UInt8).toNat=125 from rfl]
 by_cases d1:Qu.bt s.data.toList i=123
 · have hp:i<s.size:=by rw [←hl];exact Sl.bt_in (by omega)
   rw [if_pos d1,if_neg (show ¬ Qu.bt s.data.toList i≠123 by omega)]
   by_cases d2:Qu.bt s.data.toList (i+1)=125
   · rw [if_pos ⟨d1,d2⟩,if_pos d2];rfl
   · rw [if_neg (show ¬(Qu.bt s.data.toList i=123∧Qu.bt s.data.toList (i+1)=125) from fun h=>d2 h.2),if_neg d2]
     exact stake_from hN hs N (s.size+1) (i+1) [] (by omega) (by omega) (by omega) (by simp)
 · rw [if_neg d1,if_pos d1]
   exact swrong_p (by omega)
end
theorem bis_bytes (l:List UInt8):Sh.bytes (Mt.ofL l)=bis l:=by unfold Sh.bytes bis;rw [Mt.ofL_list]
theorem stext_from {N:Nat} (l:List GMatcher) (hl:l.length≤70) (hT:∀x∈l,matcher_Text_g N x=some (Mt.ofL (Mt.text (toM x)))∧(Mt.text (toM x)).length≤6000):∀(m k:Nat) (out:List UInt8),1≤k→k≤l.length→l.length<k+m→out.length≤k*7000→
 selector_Text_l1 N l m k (bis out)=some (Mt.ofL (123::(out++Sl.tl (toMs (l.drop k))++[125]))):=by
 intro m
 induction m with
 | zero=>intro k out h0 h1 h2;omega
 | succ m ih=>
   intro k out h0 h1 h2 h3
   rw [selector_Text_l1]
   simp only [cm_lss,cm_gtr,cond_dec,ll_eq]
   by_cases c:k<l.length
   · obtain ⟨t1,t2⟩:=hT _ (List.getElem_mem c)
     have a1:app (cI .u8) (bis out) (Sh.bytes (ByteArray.mk #[44,32]))=some (bis (out++[44,32])):=bis_app (m:=[44,32]) (by simp;omega)
     have a2:app (cI .u8) (bis (out++[44,32])) (bis (Mt.text (toM l[k])))=some (bis ((out++[44,32])++Mt.text (toM l[k]))):=bis_app (by simp;omega)
     have hk:(0:Int)<(k:Int):=by omega
     rw [if_pos (by omega),at_get c,inc1 (by omega)]
     simp only [Option.bind_some,hk,if_true,a1,t1,bis_bytes,a2]
     rw [ih (k+1) _ (by omega) (by omega) (by omega) (by simp;omega),List.drop_eq_getElem_cons c]
     unfold toMs
     rw [List.map_cons,Sl.tl]
     simp
   · rw [if_neg (by omega),List.drop_of_length_le (by omega)]
     rw [show strB (bis out)=_ from str_map _,Option.bind_some]
     show cond (ctB (Mt.ofL [123]) (Mt.ofL out)) (cond (ctB (ct (Mt.ofL [123]) (Mt.ofL out)) (Mt.ofL [125])) (some (ct (ct (Mt.ofL [123]) (Mt.ofL out)) (Mt.ofL [125]))) none) none=_
     rw [ofL_ctB (by simp;omega),ofL_ct,ofL_ctB (by simp;omega),ofL_ct]
     simp [toMs,Sl.tl]
theorem stext_p {N:Nat} (hN:100≤N) (l:List GMatcher) (hl:l.length≤70) (hT:∀x∈l,matcher_Text_g N x=some (Mt.ofL (Mt.text (toM x)))∧(Mt.text (toM x)).length≤6000):selector_Text_g N l=some (Mt.ofL (Sl.text (toMs l))):=by
 unfold selector_Text_g
 simp only [cm_lss,cm_gtr,cond_dec,ll_eq]
 cases l with
 | nil=>
   rw [if_neg (by simp)]
   show cond (ctB (Mt.ofL [123]) (Mt.ofL [])) (cond (ctB (ct (Mt.ofL [123]) (Mt.ofL [])) (Mt.ofL [125])) (some (ct (ct (Mt.ofL [123]) (Mt.ofL [])) (Mt.ofL [125]))) none) none=_
   rw [ofL_ctB (by simp),ofL_ct,ofL_ctB (by simp),ofL_ct];rfl
 | cons x r=>
   obtain ⟨t1,t2⟩:=hT x (by simp)
   have a1:app (cI .u8) [] (bis (Mt.text (toM x)))=some (bis (Mt.text (toM x))):=bis_app (l:=[]) (by simp;omega)
   have h0:at_ (x::r) (0:Int)=some x:=rfl
   have i1:ar .add .i64 (0:Int) 1=((1:Nat):Int):=inc1 (i:=0) (by omega)
   rw [if_pos (by simp),h0,i1]
   simp only [Option.bind_some,show ¬((0:Int)<0) by decide,if_false,t1,bis_bytes,a1]
   rw [stext_from (x::r) hl hT N 1 _ (by omega) (by simp) (by simp at hl ⊢;omega) (by omega)]
   show _=some (Mt.ofL (Sl.text (toM x::toMs r)))
   rw [Sl.text,Sl.body];rfl
end Pl
end Go.Proofs.YtpplemjjeefpdaaGreatDoor
namespace Go.Proofs.YtpplemjjeefpdaaGreatDoor
open Go Go.RowKit
open Ab Sh
namespace Gn
theorem selector_Right_w {N:Nat} {p0:List GMatcher} {r:GFault} (h:selector_Right_g N p0=some r):FunS Tryz.prog 16 [.t (.slc (rw _ cMatcher p0))] (selector_Right_s rw) r:=by
 refine fun_w lay_ok Tryz.call16 Tryz.func16 rfl ?_
 intro A W E Q R hE hR hf hQ;rcases W with ⟨ar,cm,conj,cv,sl,sc,ct,sa,ss,ll,_,_,_,_,mi,mx,_,_,_⟩
 rw [←hR]
 unfold selector_Right_g at h
 rw [q_cm hE,q_ll hE,←hR] at h
 cbv
 refine L_if hE h (fun h=>?_) (fun h=>?_)<;>cbv
 · exact And.left (hQ _ _ _ rfl rfl (by cases h;subst hR;rfl))
 refine L_for hE lay_ok 1 (fun g:Int × Nat=>[(12,fI .i64 g.1)]) (fun g=>[]) (fun g=>selector_Right_l1 N p0 g.2 g.1=some r) (fun g=>g.2) (_,N) h ?_ ?_
 · (cbv;(try simp only [e_rnil hR]);repeat' (first | exact trivial | exact rfl | exact Or.inr trivial | apply And.intro))
 rintro ⟨v1,m1⟩ h Q1 hN1 hT1 hX1
 have h:selector_Right_l1 N p0 m1 v1=some r:=h
 cases m1 with
 | zero=>exact nomatch (show (none:Option _)=some _ from h)
 | succ m1=>
 rw [selector_Right_l1] at h
 rw [q_ar hE,q_cm hE,q_ll hE,←hR] at h
 cbv
 refine L_if hE h (fun h=>?_) (fun h=>?_)<;>cbv
 · refine L_row hE hR h fun r2 h=>?_;cbv
   refine L_call hE hR h (fun _ e=>matcher_Right_w e) rfl rfl fun a3 h=>?_;cbv
   refine L_if hE h (fun h=>?_) (fun h=>?_)<;>cbv
   · refine hT1 _ ?_
     exact And.left (hQ _ _ _ rfl rfl (by cases h;subst hR;rfl))
   refine hN1 _ (_,m1) [] h (Nat.lt_succ_self _) trivial ?_;(cbv;(try simp only [e_rnil hR]);repeat' (first | exact trivial | exact rfl | exact Or.inr trivial | apply And.intro))
 refine hX1 _ _ ?_;cbv
 exact And.left (hQ _ _ _ rfl rfl (by cases h;subst hR;rfl))
end Gn
end Go.Proofs.YtpplemjjeefpdaaGreatDoor
namespace Go.Proofs.YtpplemjjeefpdaaGreatDoor
open Go Go.RowKit
open Ab Sh
namespace Gn
theorem l23_SelectorKeeps_w {N:Nat} {p0:List GMatcher} {p1:List GLabel} {p2:ByteArray} {r:Bool} (h:l23_SelectorKeeps_g N p0 p1 p2=some r):FunS Tryz.prog 6 [.t (.slc (rw _ cMatcher p0)),.t (.slc (rw _ cLabel p1)),fS p2] (l23_SelectorKeeps_s rw) r:=by
 refine fun_w lay_ok Tryz.call6 Tryz.func6 rfl ?_
 intro A W E Q R hE hR hf hQ;rcases W with ⟨ar,cm,conj,cv,sl,sc,ct,sa,ss,ll,_,_,_,_,mi,mx,_,_,_⟩
 rw [←hR]
 unfold l23_SelectorKeeps_g at h
 rw [q_cm hE,q_sl hE] at h
 cbv
 refine L_rgJ hE lay_ok h 0 (fun j1:Bool=>[(24,fB j1)]) (fun j1=>[]) (fun j1 h=>?_) (fun j1 h=>?_)<;>cbv
 · refine L_call hE hR h (fun _ e=>r23_Great_w e) (by subst hR;rfl) rfl fun a1 h=>?_;cbv
   refine L_if hE h (fun h=>?_) (fun h=>?_)<;>cbv
   · cases h;(cbv;(try simp only [e_rnil hR]);repeat' (first | exact trivial | exact rfl | exact Or.inr trivial | apply And.intro))
   cases h;(cbv;(try simp only [e_rnil hR]);repeat' (first | exact trivial | exact rfl | exact Or.inr trivial | apply And.intro))
 refine L_if hE h (fun h=>?_) (fun h=>?_)<;>cbv
 · refine L_call hE hR h (fun _ e=>l23_worksW_w e) rfl rfl fun a2 h=>?_;cbv
   exact And.left (hQ _ _ _ rfl rfl (by cases h;subst hR;rfl))
 refine L_list hE hR h (fun _ e=>selector_Order_w e) (by subst hR;rfl) rfl fun l3 h=>?_;cbv
 refine L_list hE hR h (fun _ e=>selector_NamesW_w e) (by subst hR;rfl) rfl fun l4 h=>?_;cbv
 refine L_for hE lay_ok 2 (fun g:Bool × Int × Int × Nat=>[(7,.lst 0),(8,fB g.1),(9,.lst 1),(10,fI .i64 g.2.1),(11,fI .i64 g.2.2.1),(27,.lst 0),(29,.lst 1)]) (fun g=>[]) (fun g=>l23_SelectorKeeps_l1 N p0 p1 p2 l3 l4 g.2.2.2 g.1 g.2.1 g.2.2.1=some r) (fun g=>g.2.2.2) (_,_,_,N) h ?_ ?_
 · (cbv;(try simp only [e_rnil hR]);repeat' (first | exact trivial | exact rfl | exact Or.inr trivial | apply And.intro))
 rintro ⟨v5,v6,v7,m1⟩ h Q1 hN1 hT1 hX1
 have h:l23_SelectorKeeps_l1 N p0 p1 p2 l3 l4 m1 v5 v6 v7=some r:=h
 cases m1 with
 | zero=>exact nomatch (show (none:Option _)=some _ from h)
 | succ m1=>
 rw [l23_SelectorKeeps_l1] at h
 rw [q_ar hE,q_cm hE,q_conj hE,q_sl hE,q_ct hE,q_ll hE,←hR] at h
 cbv
 refine L_if hE h (fun h=>?_) (fun h=>?_)<;>cbv
 · refine L_row hE hR h fun r8 h=>?_;cbv
   refine L_row hE hR h fun r9 h=>?_;cbv
   refine L_list hE hR h (fun _ e=>selector_Of_w e) (by subst hR;rfl) rfl fun l10 h=>?_;cbv
   refine L_rgJ hE lay_ok h 3 (fun j2:Bool=>[(8,fB j2)]) (fun j2=>[]) (fun j2 h=>?_) (fun j2 h=>?_)<;>cbv
   · refine L_if hE h (fun h=>?_) (fun h=>?_)<;>cbv
     · refine L_bare hE hR h (fun _ e=>selector_Holds_w e) rfl (by subst hR;rfl) (fun _=>rfl) fun a11 h=>?_;cbv
       cases h;(cbv;(try simp only [e_rnil hR]);repeat' (first | exact trivial | exact rfl | exact Or.inr trivial | apply And.intro))
     cases h;(cbv;(try simp only [e_rnil hR]);repeat' (first | exact trivial | exact rfl | exact Or.inr trivial | apply And.intro))
   refine hN1 _ (_,_,_,m1) [] h (Nat.lt_succ_self _) trivial ?_;(cbv;(try simp only [e_rnil hR]);repeat' (first | exact trivial | exact rfl | exact Or.inr trivial | apply And.intro))
 refine hX1 _ _ ?_;cbv
 refine L_rgJ hE lay_ok h 2 (fun j3:Bool=>[(78,fB j3)]) (fun j3=>[]) (fun j3 h=>?_) (fun j3 h=>?_)<;>cbv
 · refine L_bare hE hR h (fun _ e=>selector_Holds_w e) rfl (by subst hR;rfl) (fun _=>rfl) fun a12 h=>?_;cbv
   refine L_call hE hR h (fun _ e=>selector_Holds_w e) (by subst hR;rfl) rfl fun a13 h=>?_;cbv
   refine L_if hE h (fun h=>?_) (fun h=>?_)<;>cbv
   · cases h;(cbv;(try simp only [e_rnil hR]);repeat' (first | exact trivial | exact rfl | exact Or.inr trivial | apply And.intro))
   refine L_call hE hR h (fun _ e=>selector_Holds_w e) (by subst hR;rfl) rfl fun a14 h=>?_;cbv
   refine L_if hE h (fun h=>?_) (fun h=>?_)<;>cbv
   · cases h;(cbv;(try simp only [e_rnil hR]);repeat' (first | exact trivial | exact rfl | exact Or.inr trivial | apply And.intro))
   refine L_if hE h (fun h=>?_) (fun h=>?_)<;>cbv
   · cases h;(cbv;(try simp only [e_rnil hR]);repeat' (first | exact trivial | exact rfl | exact Or.inr trivial | apply And.intro))
   cases h;(cbv;(try simp only [e_rnil hR]);repeat' (first | exact trivial | exact rfl | exact Or.inr trivial | apply And.intro))
 refine L_if hE h (fun h=>?_) (fun h=>?_)<;>cbv
 · exact And.left (hQ _ _ _ rfl rfl (by cases h;subst hR;rfl))
 refine L_call hE hR h (fun _ e=>selector_Right_w e) (by subst hR;rfl) rfl fun a15 h=>?_;cbv
 refine L_if hE h (fun h=>?_) (fun h=>?_)<;>cbv
 · refine L_call hE hR h (fun _ e=>l23_worksW_w e) rfl rfl fun a16 h=>?_;cbv
   exact And.left (hQ _ _ _ rfl rfl (by cases h;subst hR;rfl))
 refine L_call hE hR h (fun _ e=>selector_Text_w e) (by subst hR;rfl) rfl fun a17 h=>?_;cbv
 refine L_ct hE h fun h=>?_
 refine L_ct hE h fun h=>?_
 refine L_call hE hR h (fun _ e=>selector_Take_w e) rfl rfl fun a18 h=>?_;cbv
 refine L_rgJ hE lay_ok h 3 (fun j4:Bool=>[(6,fB j4)]) (fun j4=>[]) (fun j4 h=>?_) (fun j4 h=>?_)<;>cbv
 · refine L_call hE hR h (fun _ e=>porterbase_SameSel_w e) (by subst hR;rfl) rfl fun a19 h=>?_;cbv
   refine L_if hE h (fun h=>?_) (fun h=>?_)<;>cbv
   · refine L_if hE h (fun h=>?_) (fun h=>?_)<;>cbv
     · refine L_if hE h (fun h=>?_) (fun h=>?_)<;>cbv
       · refine L_call hE hR h (fun _ e=>l23_worksW_w e) rfl rfl fun a20 h=>?_;cbv
         cases h;(cbv;(try simp only [e_rnil hR]);repeat' (first | exact trivial | exact rfl | exact Or.inr trivial | apply And.intro))
       cases h;(cbv;(try simp only [e_rnil hR]);repeat' (first | exact trivial | exact rfl | exact Or.inr trivial | apply And.intro))
     cases h;(cbv;(try simp only [e_rnil hR]);repeat' (first | exact trivial | exact rfl | exact Or.inr trivial | apply And.intro))
   cases h;(cbv;(try simp only [e_rnil hR]);repeat' (first | exact trivial | exact rfl | exact Or.inr trivial | apply And.intro))
 exact And.left (hQ _ _ _ rfl rfl (by cases h;subst hR;rfl))
end Gn
end Go.Proofs.YtpplemjjeefpdaaGreatDoor
namespace Go.Proofs.YtpplemjjeefpdaaGreatDoor
open Go
namespace Sl
open Mt (M)
theorem drop_bt {s t:List UInt8} {i j:Nat} (h:s.drop i=t):Qu.bt s (i+j)=Qu.bt t j:=by rw [Qu.bt_drop,h]
theorem label_first {l:List UInt8} (h:Nm.labelB l=true):∃c r,l=c::r∧c≠125:=by
 cases l with
 | nil=>simp [Nm.labelB] at h
 | cons c r=>
   refine ⟨c,r,rfl,fun e=>?_⟩
   subst e
   unfold Nm.labelB Nm.allB at h
   have e:Nm.run Nm.signB true ((125:UInt8)::r)=0:=by
    rw [Nm.run,if_neg (by decide)]
   simp [e] at h
theorem loop_back {s post:List UInt8}:∀(r:List M) (f:Nat) (out:List M) (i:Nat),r≠[]→(∀m∈r,Mt.right m=0)→out.length+r.length≤64→r.length≤f→i≤s.length→s.drop i=body r++125::post→
 loop s f out i=.ok (out++r) (i+(body r).length+1)
 | [],f,out,i,h,_,_,_,_,_=>absurd rfl h
 | m::r,0,out,i,_,_,_,hf,_,_=>by simp at hf
 | m ::r,f+1,out,i,_,hr,h64,hf,hi,hd=>by
   simp at h64 hf
   have hm:=hr m (by simp)
   rw [loop,if_neg (by omega)]
   obtain ⟨rest,hrest⟩:∃rest,rest=tl r++125::post:=⟨_,rfl⟩
   have hs:s=s.take i++Mt.text m++rest:=by
    have e:=List.take_append_drop i s
    rw [hd,body,List.append_assoc,←hrest] at e
    rw [List.append_assoc]
    exact e.symm
   have hl:(s.take i).length=i:=by rw [List.length_take];omega
   have hb:=Mt.take_back hm (s.take i) rest
   rw [←hs,hl] at hb
   rw [hb]
   dsimp only
   have hd2:s.drop (i+(Mt.text m).length)=rest:=by
    rw [←List.drop_drop,hd,body,List.append_assoc,←hrest,List.drop_left]
   have b0:Qu.bt s (i+(Mt.text m).length)=Qu.bt rest 0:=drop_bt (j:=0) hd2
   have b1:Qu.bt s (i+(Mt.text m).length+1)=Qu.bt rest 1:=drop_bt (j:=1) hd2
   cases r with
   | nil=>
     have:Qu.bt rest 0=125:=by rw [hrest];rfl
     rw [b0,this,if_pos rfl,body,tl]
     simp
   | cons m2 r=>
     have e0:Qu.bt rest 0=44:=by rw [hrest];rfl
     have e1:Qu.bt rest 1=32:=by rw [hrest];rfl
     rw [b0,b1,e0,e1,if_neg (by decide),if_neg (by decide),if_neg (by decide)]
     have hd3:s.drop (i+(Mt.text m).length+2)=body (m2::r)++125::post:=by
      rw [←List.drop_drop,hd2,hrest];rfl
     have hlen:i+(Mt.text m).length+2≤s.length:=by
      have h1:=congrArg List.length hd2
      rw [List.length_drop] at h1
      have h2:2≤rest.length:=by rw [hrest,tl];simp
      omega
     rw [loop_back (m2::r) f (out++[m]) (i+(Mt.text m).length+2) (by simp) (fun x hx=>hr x (by simp at hx ⊢;exact .inr hx)) (by simp at h64 ⊢;omega) (by simpa using hf) hlen hd3]
     have e2:(body (m::m2::r)).length=(Mt.text m).length+2+(body (m2::r)).length:=by
      rw [body,body,tl];simp;omega
     rw [e2,List.append_assoc]
     congr 1
     omega
theorem take_back {l:List M} (hr:∀m∈l,Mt.right m=0) (h64:l.length≤64) (pre post:List UInt8):take (pre++text l++post) pre.length=.ok l (pre.length+(text l).length):=by
 have hd:(pre++text l++post).drop pre.length=123::(body l++125::post):=by
  rw [List.append_assoc,List.drop_left,text];simp
 have hl:(pre++text l++post).length=pre.length+((body l).length+2)+post.length:=by rw [text];simp;omega
 have b0:Qu.bt (pre++text l++post) pre.length=123:=drop_bt (j:=0) hd
 have b1:Qu.bt (pre++text l++post) (pre.length+1)=Qu.bt (body l++125::post) 0:=drop_bt (j:=1) hd
 unfold take
 rw [if_neg (by omega),Int.toNat_natCast,b0,if_neg (by decide),b1]
 cases l with
 | nil=>rfl
 | cons m r=>
   obtain ⟨hlab,-,-⟩:=Mt.right_ok (hr m (by simp))
   obtain ⟨c,t,e,hc⟩:=label_first hlab
   have hne:Qu.bt (body (m::r)++125::post) 0≠125:=by
    rw [body,Mt.text,e]
    show c.toNat≠125
    intro h
    exact hc (UInt8.toNat_inj.1 h)
   rw [if_neg hne]
   have hd2:(pre++text (m::r)++post).drop (pre.length+1)=body (m::r)++125::post:=by rw [←List.drop_drop,hd];rfl
   have hz:(m::r).length≤64:=h64
   have hbl:(m::r).length≤(body (m::r)).length:=by
    have key:∀l:List M,l.length≤(tl l).length:=by
     intro l
     induction l with
     | nil=>exact Nat.le_refl _
     | cons x y ih=>rw [tl];simp;omega
    have:=key r
    rw [body,Mt.text,e]
    simp
    omega
   rw [loop_back (m::r) _ [] (pre.length+1) (by simp) hr (by simpa using h64) (by omega) (by omega) hd2]
   rw [List.nil_append,text]
   congr 1
   simp
   omega
end Sl
end Go.Proofs.YtpplemjjeefpdaaGreatDoor
namespace Go.Proofs.YtpplemjjeefpdaaGreatDoor
open Go
open Sh Gn Soo
namespace Pl
theorem first_ok:∀(l:List Mt.M) (k:Nat),(Sl.firstBad l k).1=0→∀m∈l,Mt.right m=0
 | [],_,_,m,hm=>by cases hm
 | a ::r,k,h,m,hm=>by
   rw [Sl.firstBad] at h
   by_cases g:Mt.right a=0
   · rw [if_neg (by simp [g])] at h
     rcases List.mem_cons.1 hm with e | hm
     · exact e▸g
     · exact first_ok r _ h m hm
   · rw [if_pos g] at h
     exact absurd h g
theorem right_ok_ {l:List Mt.M} (h:(Sl.right l).1=0):l.length≤64∧∀m∈l,Mt.right m=0:=by
 unfold Sl.right at h
 split at h
 · exact absurd h (by decide)
 · exact ⟨by omega,first_ok l _ h⟩
theorem tl_len:∀(l:List Mt.M),(∀m∈l,(Mt.text m).length≤6000)→(Sl.tl l).length≤6002*l.length
 | [],_=>by simp [Sl.tl]
 | a::r,h=>by
   rw [Sl.tl]
   have h1:=h a (List.mem_cons_self ..)
   have h2:=tl_len r fun m hm=>h m (List.mem_cons_of_mem _ hm)
   simp only [List.length_cons,List.length_append]
   omega
theorem seltext_len (l:List Mt.M) (h:∀m∈l,(Mt.text m).length≤6000):(Sl.text l).length≤2+6002*l.length:=by
 unfold Sl.text
 cases l with
 | nil=>simp [Sl.body]
 | cons a r=>
   rw [Sl.body]
   have h1:=h a (List.mem_cons_self ..)
   have h2:=tl_len r fun m hm=>h m (List.mem_cons_of_mem _ hm)
   simp only [List.length_cons,List.length_append,List.length_nil]
   omega
theorem holds_iff (l:List GMatcher) (p:List Mt.L):Sl.holds (toMs l) p=true↔∀x∈l,Mt.holds (toM x) p=true:=by
 unfold Sl.holds toMs
 rw [List.all_eq_true]
 simp
theorem holds_same {l r:List GMatcher} (h:∀x,x∈r↔x∈l) (p:List Mt.L):Sl.holds (toMs r) p=Sl.holds (toMs l) p:=by
 rw [Bool.eq_iff_iff,holds_iff,holds_iff]
 exact ⟨fun g x hx=>g x ((h x).2 hx),fun g x hx=>g x ((h x).1 hx)⟩
theorem mem_ofN {l:List GMatcher} {n:ByteArray} {x:GMatcher}:x∈ofN l n↔x∈l∧x.Name=n:=by unfold ofN;simp
theorem holds_names {l:List GMatcher} {q:List ByteArray} (h:∀x,x∈q↔∃z∈l,z.Name=x) (p:List Mt.L):(q.all fun n=>Sl.holds (toMs (ofN l n)) p)=Sl.holds (toMs l) p:=by
 rw [Bool.eq_iff_iff,List.all_eq_true,holds_iff]
 constructor
 · intro g x hx
   exact (holds_iff _ _).1 (g x.Name ((h _).2 ⟨x,hx,rfl⟩)) x (mem_ofN.2 ⟨hx,rfl⟩)
 · intro g n hn
   exact (holds_iff _ _).2 fun x hx=>g x (mem_ofN.1 hx).1
def lens (l:List GMatcher) (q:List ByteArray):Nat:=(q.map fun n=>(ofN l n).length).sum
theorem lens_nil:∀q:List ByteArray,lens [] q=0
 | []=>rfl
 | n::q=>by
   have ih:=lens_nil q
   unfold lens at ih ⊢
   rw [List.map_cons,List.sum_cons,ih];rfl
theorem lens_cons (a:GMatcher) (l:List GMatcher):∀q:List ByteArray,lens (a::l) q=q.countP (fun n=>decide (a.Name=n))+lens l q
 | []=>rfl
 | n::q=>by
   have ih:=lens_cons a l q
   unfold lens at ih ⊢
   simp only [List.map_cons,List.sum_cons,List.countP_cons]
   rw [ih]
   unfold ofN
   rw [List.filter_cons]
   by_cases g:a.Name=n<;>simp [g]<;>omega
theorem one_of:∀{q:List ByteArray} {n:ByteArray},q.Pairwise ltN→n∈q→q.countP (fun m=>decide (n=m))=1
 | [],n,_,h=>by cases h
 | m ::q,n,hp,h=>by
   have hp':=List.pairwise_cons.1 hp
   rw [List.countP_cons]
   by_cases g:n=m
   · subst g
     have:q.countP (fun m=>decide (n=m))=0:=by
      rw [List.countP_eq_zero]
      intro y hy e
      have e:n=y:=by simpa using e
      subst e
      exact ltN_irr _ (hp'.1 n hy)
     rw [this];simp
   · have hm:n∈q:=(List.mem_cons.1 h).resolve_left g
     rw [one_of hp'.2 hm];simp [g]
theorem lens_all:∀{l:List GMatcher} {q:List ByteArray},q.Pairwise ltN→(∀z∈l,z.Name∈q)→lens l q=l.length
 | [],q,_,_=>lens_nil q
 | a::l,q,hp,h=>by
   rw [lens_cons,one_of hp (h a (List.mem_cons_self ..)),lens_all hp fun z hz=>h z (List.mem_cons_of_mem _ hz),List.length_cons];omega
theorem k_ct (a:ByteArray) (l:List UInt8):ct a (Mt.ofL l)=Mt.ofL (a.data.toList++l):=by
 have:=ofL_ct a.data.toList l
 rwa [Mt.ofL_self] at this
theorem k_ct2 (l:List UInt8) (a:ByteArray):ct (Mt.ofL l) a=Mt.ofL (l++a.data.toList):=by
 have:=ofL_ct l a.data.toList
 rwa [Mt.ofL_self] at this
theorem k_ctB {a b:ByteArray} (h:a.size+b.size≤1000000000):ctB a b=true:=decide_eq_true h
theorem skeep_from {N:Nat} (hN:30000≤N) (l:List GMatcher) (hl:l.length≤100) {p:List GLabel} (hp:p.length≤10000) (hM:∀x∈l,Mild p x) (a:ByteArray) (r:List GMatcher) (q:List ByteArray) (hq:q.length≤100):∀(m k:Nat) (v:Bool) (n:Nat),k≤q.length→q.length<k+m→n≤100*k→
 l23_SelectorKeeps_l1 N l p a r q m v n k=l23_SelectorKeeps_l1 N l p a r [] 1 (v&&(q.drop k).all fun n=>Sl.holds (toMs (ofN l n)) (toL p)) ((n+lens l (q.drop k):Nat):Int) 0:=by
 intro m
 induction m with
 | zero=>intro k v n h1 h2;omega
 | succ m ih=>
   intro k v n h1 h2 h3
   by_cases c:k<q.length
   · rw [l23_SelectorKeeps_l1,cm_lss,ll_eq,decide_eq_true (by omega),_root_.cond_true,at_get c,Option.bind_some,Option.bind_some,of_p l hl,Option.bind_some]
     have hof:(ofN l q[k]).length≤l.length:=List.length_filter_le _ _
     rw [sholds_p hN hp (ofN l q[k]) (by omega) (fun x hx=>hM x (mem_ofN.1 hx).1),Option.bind_some]
     have e:(cond v (some (Sl.holds (toMs (ofN l q[k])) (toL p))) (some false))=some (v&&Sl.holds (toMs (ofN l q[k])) (toL p)):=by cases v<;>rfl
     rw [e,Option.bind_some,ll_eq,ar_add (by omega) (by omega),inc1 (by omega),show ((n:Int)+((ofN l q[k]).length:Int))=((n+(ofN l q[k]).length:Nat):Int) by omega]
     rw [ih (k+1) _ _ (by omega) (by omega) (by omega),List.drop_eq_getElem_cons c,List.all_cons,Bool.and_assoc]
     have e2:lens l (q[k]::q.drop (k+1))=(ofN l q[k]).length+lens l (q.drop (k+1)):=by unfold lens;rw [List.map_cons,List.sum_cons]
     rw [e2,Nat.add_assoc]
   · rw [List.drop_of_length_le (by omega),List.all_nil,Bool.and_true]
     have e2:lens l []=0:=rfl
     rw [e2,Nat.add_zero]
     have d1:decide ((k:Int)<(q.length:Int))=false:=decide_eq_false (by omega)
     rw [l23_SelectorKeeps_l1,l23_SelectorKeeps_l1,show cm .lss 0 (ll (rw ByteArray cS []))=false from rfl,show cm .lss (k:Int) (ll (rw ByteArray cS q))=false by rw [cm_lss,ll_eq];exact d1]
     rfl
theorem selkeeps_g {N:Nat} (hN:800000≤N) (hW:l23_worksW_g N=some true) (hT:∀g:GMatcher,g.Value.size≤1200→g.Name.size≤100→matcher_Text_g N g=some (Mt.ofL (Mt.text (toM g)))∧r22_Text_g N g=some (Mt.ofL (Mt.text (toM g)))∧(Mt.text (toM g)).length≤6000)
 (l:List GMatcher) (p:List GLabel) (a:ByteArray):l23_SelectorKeeps_g N l p a=some true:=by
 unfold l23_SelectorKeeps_g
 obtain ⟨b,h1,h2⟩:=sgreat_p (N:=N) (by omega) l p
 rw [h1,hW,Option.bind_some]
 cases b with
 | true=>rfl
 | false=>
   rw [_root_.cond_false,Option.bind_some,cm_gtr,sl_eq]
   by_cases ca:(30:Int)<a.size
   · rw [decide_eq_true ca];rfl
   rw [decide_eq_false ca,_root_.cond_false]
   obtain ⟨z1,z2,z3⟩:=h2 rfl
   obtain ⟨r,o1,o2,o3,o4⟩:=orders_eq (N:=N) (by omega) l (by omega) (fun x hx=>⟨(z3 x hx).1,(z3 x hx).2.1⟩)
   obtain ⟨q,n1,n2,n3,n4,n5⟩:=namess_eq (N:=N) (by omega) l (by omega) (fun x hx=>⟨(z3 x hx).1,(z3 x hx).2.1⟩)
   rw [o1,n1,Option.bind_some,Option.bind_some]
   have hk:=skeep_from (N:=N) (by omega) l (by omega) (p:=p) (by omega) z3 a r q (by omega) N 0 true 0 (by omega) (by omega) (by omega)
   rw [show ((0:Nat):Int)=0 from rfl] at hk
   rw [hk,List.drop_zero,Bool.true_and,holds_names n4,Nat.zero_add,lens_all n3 fun z hz=>(n4 _).2 ⟨z,hz,rfl⟩]
   rw [l23_SelectorKeeps_l1,show cm .lss 0 (ll (rw ByteArray cS []))=false from rfl,_root_.cond_false]
   rw [sholds_p (N:=N) (by omega) (by omega) l (by omega) z3,sholds_p (N:=N) (by omega) (by omega) r (by omega) fun x hx=>z3 x ((o3 x).1 hx),holds_same o3]
   have b2:∀b:Bool,conj [b==b]=true:=fun b=>by cases b<;>rfl
   simp only [Option.bind_some,b2,Bool.not_true,_root_.cond_false,cm_neq,ll_eq,decide_true,cm_gtr]
   rw [decide_eq_false (show ¬((l.length:Int)<r.length) by omega),_root_.cond_false,sright_p (N:=N) (by omega) l,Option.bind_some]
   dsimp only
   by_cases cr:(Sl.right (toMs l)).1=0
   · obtain ⟨r1,r2⟩:=right_ok_ cr
     have e0:(toMs l).length=l.length:=by unfold toMs;rw [List.length_map]
     rw [decide_eq_true cr,Bool.not_true,_root_.cond_false]
     rw [stext_p (by omega) l z1 (fun x hx=>by have:=hT x (z3 x hx).1 (z3 x hx).2.1;exact ⟨this.1,this.2.2⟩),Option.bind_some]
     have tl:=seltext_len (toMs l) (fun m hm=>by
      unfold toMs at hm
      obtain ⟨x,hx,rfl⟩:=List.mem_map.1 hm
      exact (hT x (z3 x hx).1 (z3 x hx).2.1).2.2)
     have hz:=ofL_size (Sl.text (toMs l))
     have za:=size_list a
     have e1:ct (ct a (Mt.ofL (Sl.text (toMs l)))) a=Mt.ofL (a.data.toList++Sl.text (toMs l)++a.data.toList):=by rw [k_ct,k_ct2]
     have w1:(ct a (Mt.ofL (Sl.text (toMs l)))).size≤389000:=by rw [k_ct,ofL_size,List.length_append];omega
     have w2:(ct (ct a (Mt.ofL (Sl.text (toMs l)))) a).size≤390000:=by rw [e1,ofL_size,List.length_append,List.length_append];omega
     rw [k_ctB (by omega),k_ctB (by omega),_root_.cond_true,_root_.cond_true,stake_p hN w2,e1,Mt.ofL_list]
     have hb:=Sl.take_back r2 (by omega) a.data.toList a.data.toList
     rw [za] at hb
     rw [sl_eq,hb]
     have hea:ar .add .i64 (a.size:Int) ((Mt.ofL (Sl.text (toMs l))).size:Int)=((a.size+(Sl.text (toMs l)).length:Nat):Int):=by rw [hz,ar_add (by omega) (by omega)];omega
     simp only [takeVS,ofMs_toMs,Option.bind_some,samesel_p l (by omega) (show 100000<N by omega),_root_.cond_true,sl_eq,hea,eql_self,conj2,Bool.and_self,hW]
   · rw [decide_eq_false cr,Bool.not_false,_root_.cond_true,hW];rfl
theorem selkeeps_p (l:List GMatcher) (p:List GLabel) (a:ByteArray):l23_SelectorKeeps_g 800000 l p a=some true:=selkeeps_g (Nat.le_refl _) sworksW_p (fun g h1 h2=>mtext_p g h1 h2) l p a
end Pl
end Go.Proofs.YtpplemjjeefpdaaGreatDoor
