/- Texts that the proof leans on. -/
import Derived.Test.YtjhbgkakhaonaaaGreatDoorK235
import Derived.Test.YtjhbgkakhaonaaaGreatDoorK232
set_option linter.unusedVariables false
set_option linter.unusedSimpArgs false
set_option maxRecDepth 100000
set_option maxHeartbeats 4000000
namespace Go.Proofs.YtjhbgkakhaonaaaGreatDoor
open Go
open Sh Gn
open Pl (pickL mem_pick pick_congr pick_len pickF pickF_0 pickF_s pickF_e Fit Low nextOf Mk mk_0 mk_at mk_set Can can_nil in_p join_p rs rs_in okB fit_pick)
namespace Dq
variable {p:GSpots}
theorem r_l1 {N:Nat} {B:List Int} (hB:bR B=true) (hp:Pl.Ok p) (hf:rs p.Sets.length (-1) p.First=true) (hN:5000≤N):∀(m n:Nat) (s:List (List Int)) (fi:List Bool) (rows:List (List Int)),s≠[]→n≤s.length→rows.length=n→s.length≤4096→(∀y∈s,Fit p y)→fi.length=s.length→
 r18_Of_l1 N p 4096 B (wide B) m n fi s rows=(ofS p (bytesOf B) m n s fi rows).map (outS B):=by
 have hw:=wide_le B
 intro m
 induction m with
 | zero=>intro n s fi rows h0 h1 h2 h3 h4 h5;rfl
 | succ m ih=>
   intro n s fi rows h0 h1 h2 h3 h4 h5
   rw [r18_Of_l1,ofS]
   simp only [cm_lss,ll_eq,cond_dec,cm_eql]
   by_cases c:n<s.length
   · have hx:=List.getElem?_eq_getElem c
     have hfx:=h4 _ (List.getElem_mem c)
     rw [if_pos (by omega),hx]
     simp only
     have ej:(if (n:Int)=0 then some p.First else some ([]:List Int))=some (pickL p.Sets.length fun y=>decide (y∈if n=0 then p.First else [])):=by
      by_cases e:n=0
      · subst e
        rw [if_pos (by rfl),if_pos rfl]
        exact congrArg some (rs_can (i:=0) hf (by omega))
      · rw [if_neg (by omega),if_neg e]
        exact congrArg some (can_nil (p:=p))
     rw [ej,Option.bind_some]
     have h2':=r_l2 (p:=p) (N:=N) (k1:=r18_Of_l1 N p 4096 B (wide B) m) (B:=B) hp hN (n:=n) (s:=s) (fi:=fi) (rows:=rows) (acc0:=if n=0 then p.First else []) hx hfx N 0 (by omega) (by have:=hfx.1;omega)
     rw [List.take_zero,List.flatMap_nil,List.append_nil] at h2'
     have h2'':r18_Of_l2 N (r18_Of_l1 N p 4096 B (wide B) m) p 4096 B (wide B) n fi s rows N (pickL p.Sets.length fun y=>decide (y∈if n=0 then p.First else [])) 0=_:=h2'
     rw [h2'']
     have h3':=r_l3 (p:=p) (N:=N) (k1:=r18_Of_l1 N p 4096 B (wide B) m) hB hp.low hN (n:=n) (by omega) (rows:=rows) (by omega) (acc:=may p n s[n]) N 0 s fi [] (by omega) (by omega) h0 h3 h4 h5 (by simp)
     rw [List.drop_zero] at h3'
     refine Eq.trans (show _=r18_Of_l3 N (r18_Of_l1 N p 4096 B (wide B) m) p 4096 B (wide B) n rows (pickL p.Sets.length fun x=>decide (x∈may p n s[n])) N (0:Nat) fi s [] from rfl) (h3'.trans ?_)
     cases hr:rowS p (may p n s[n]) (bytesOf B) s fi [] with
     | none=>rfl
     | some z=>
       obtain ⟨s',fi',r'⟩:=z
       obtain ⟨q1,q2,q3,q4,q5⟩:=rowS_len h3 h0 h5 hr
       simp only
       exact ih (n+1) s' fi' (rows++[r']) q2 (by simp at q4;omega) (by simp [h2]) q1 (rowS_fit hp.low h4 hr) q3
   · rw [if_neg (by omega),List.getElem?_eq_none (by omega)]
     rfl
theorem rof_ok (hp:Low p) (hok:okB p=true) {N:Nat} (hN:5000≤N):r18_Of_g N p 4096=(ofS p (bytesOf (blkS p.Sets)) N 0 [[]] [p.None] []).map (outS (blkS p.Sets)):=by
 have hB:bR (blkS p.Sets)=true:=(blkS_blk p.Sets).rgt
 have h200:=hp.sets
 have hOk:=Pl.ok_of hp hok
 have hf:rs p.Sets.length (-1) p.First=true:=by
  unfold Pl.okB at hok
  simp only [Bool.and_eq_true] at hok
  exact hok.2.2.1
 unfold r18_Of_g
 rw [Pl.rright_p hp (by omega),hok,Option.bind_some,rof_p (by omega) (by omega) (by omega),Option.bind_some,rbcount_p (by rw [(blkS_blk p.Sets).len];omega) (by omega),Option.bind_some]
 exact r_l1 (p:=p) hB hOk hf hN N 0 [[]] [p.None] [] (by simp) (by simp) rfl (by simp) (fun y hy=>by
  rw [List.mem_singleton] at hy
  rw [hy]
  exact ⟨by simp,fun x h=>by cases h⟩) rfl
theorem rof_bad (hp:Low p) (hok:okB p=false) {N:Nat} (hN:5000≤N):r18_Of_g N p 4096=some (⟨0,[],[],[]⟩,7):=by
 unfold r18_Of_g
 rw [Pl.rright_p hp (by omega),hok]
 rfl
theorem ofS_some {bs:List Nat}:∀(m n:Nat) (s:List (List Int)) (fi:List Bool) (rows:List (List Int)),s≠[]→n≤s.length→rows.length=n→s.length≤4096→fi.length=s.length→(∀r∈rows,r.length=bs.length)→4096<n+m→
 ∃z,ofS p bs m n s fi rows=some z∧∀s' fi' nx',z=some (s',fi',nx')→s'.length≤4096∧fi'.length=s'.length∧nx'.length=s'.length∧∀r∈nx',r.length=bs.length:=by
 intro m
 induction m with
 | zero=>intro n s fi rows h0 h1 h2 h3 h4 h5 h6;omega
 | succ m ih=>
   intro n s fi rows h0 h1 h2 h3 h4 h5 h6
   rw [ofS]
   by_cases c:n<s.length
   · rw [List.getElem?_eq_getElem c]
     simp only
     cases hr:rowS p (may p n s[n]) bs s fi [] with
     | none=>exact ⟨none,rfl,fun _ _ _ h=>by cases h⟩
     | some z=>
       obtain ⟨s',fi',r'⟩:=z
       obtain ⟨q1,q2,q3,q4,q5⟩:=rowS_len h3 h0 h4 hr
       simp only
       refine ih (n+1) s' fi' (rows++[r']) q2 (by simp at q4;omega) (by simp [h2]) q1 q3 (fun r hm=>?_) (by omega)
       rcases List.mem_append.1 hm with hm | hm
       · exact h5 r hm
       · rw [List.mem_singleton] at hm
         rw [hm,q5]
         simp
   · rw [List.getElem?_eq_none (by omega)]
     refine ⟨_,rfl,fun s' fi' nx' h=>?_⟩
     cases h
     exact ⟨h3,h4,by omega,h5⟩
theorem bools_l {l:List Bool} (hl:l.length≤100000):∀(m i:Nat),i≤l.length→l.length<i+m→porterbase_SameBools_l1 l l m i=some true:=by
 intro m
 induction m with
 | zero=>intro i h1 h2;omega
 | succ m ih=>
   intro i h1 h2
   rw [porterbase_SameBools_l1]
   simp only [cm_lss,ll_eq,cond_dec]
   by_cases c:i<l.length
   · rw [if_pos (by omega),at_in c,Option.bind_some,Option.bind_some,inc1 (by omega),ih (i+1) (by omega) (by omega)]
     cases l[i]<;>rfl
   · rw [if_neg (by omega)]
theorem rows_l {l:List (List Int)} (hl:l.length≤100000) {N:Nat} (hx:∀r∈l,r.length≤1000) (hN:1000<N):∀(m i:Nat),i≤l.length→l.length<i+m→r18_SameRows_l1 N l l m i=some true:=by
 intro m
 induction m with
 | zero=>intro i h1 h2;omega
 | succ m ih=>
   intro i h1 h2
   rw [r18_SameRows_l1]
   simp only [cm_lss,ll_eq,cond_dec]
   by_cases c:i<l.length
   · have:=hx _ (List.getElem_mem c)
     rw [if_pos (by omega),at_in c,Option.bind_some,Option.bind_some,same_p (by omega) (by omega),inc1 (by omega),ih (i+1) (by omega) (by omega)]
     simp
   · rw [if_neg (by omega)]
theorem same_refl (d:GDfa) (h1:d.Final.length≤5000) (h2:d.Block.length≤1000) (h3:d.Next.length≤5000) (h4:∀r∈d.Next,r.length≤1000):r18_Same_g 6000 d d=some true:=by
 unfold r18_Same_g
 have e1:porterbase_SameBools_g 6000 d.Final d.Final=some true:=by
  unfold porterbase_SameBools_g
  simp only [cm_neq,ll_eq,cond_not,cond_dec]
  rw [if_pos trivial]
  exact bools_l (by omega) 6000 0 (by omega) (by omega)
 have e2:r18_SameRows_g 6000 d.Next d.Next=some true:=by
  unfold r18_SameRows_g
  simp only [cm_neq,ll_eq,cond_not,cond_dec]
  rw [if_pos trivial]
  exact rows_l (by omega) h4 (by omega) 6000 0 (by omega) (by omega)
 have e3:porterbase_SameInts_g 6000 d.Block d.Block=some true:=by
  rw [same_p (by omega) (by omega)]
  simp
 simp only [cm_eql,cond_dec]
 rw [if_pos trivial,e1,e2,e3]
 rfl
theorem small_l (hn:p.Next.length≤1000):∀(m i:Nat),i≤p.Next.length→p.Next.length<i+m→l18_Small_l1 p m i=some ((p.Next.drop i).all fun l=>decide (l.length≤40)):=by
 intro m
 induction m with
 | zero=>intro i h1 h2;omega
 | succ m ih=>
   intro i h1 h2
   rw [l18_Small_l1]
   simp only [cm_lss,cm_gtr,ll_eq,cond_dec]
   by_cases c:i<p.Next.length
   · rw [if_pos (by omega),at_in c,Option.bind_some,inc1 (by omega),List.drop_eq_getElem_cons c,List.all_cons]
     by_cases e:p.Next[i].length≤40
     · rw [if_neg (by omega),ih (i+1) (by omega) (by omega),decide_eq_true e,Bool.true_and]
     · rw [if_pos (by omega),decide_eq_false e,Bool.false_and]
   · rw [if_neg (by omega),List.drop_of_length_le (by omega)]
     rfl
theorem small_p:∃b,l18_Small_g 6000 p 7=some b∧(b=true→Low p):=by
 unfold l18_Small_g
 simp only [cm_gtr,ll_eq,cond_dec]
 by_cases h1:(7:Int)<p.Sets.length
 · exact ⟨false,by rw [if_pos h1];rfl,fun h=>by cases h⟩
 by_cases h2:(7:Int)<p.Next.length
 · exact ⟨false,by rw [if_neg h1,if_pos h2];rfl,fun h=>by cases h⟩
 by_cases h3:(40:Int)<p.First.length
 · exact ⟨false,by rw [if_neg h1,if_neg h2,if_pos h3];rfl,fun h=>by cases h⟩
 rw [if_neg h1,if_neg h2,if_neg h3,Option.bind_some]
 by_cases h4:(40:Int)<p.Last.length
 · exact ⟨false,by rw [decide_eq_true h4];rfl,fun h=>by cases h⟩
 rw [decide_eq_false h4,_root_.cond_false]
 refine ⟨_,small_l (p:=p) (by omega) 6000 0 (by omega) (by omega),fun h=>?_⟩
 rw [List.drop_zero,List.all_eq_true] at h
 exact ⟨by omega,by omega,by omega,by omega,fun l hl=>by have:=of_decide_eq_true (h l hl);omega⟩
theorem dfaof_p (p:GSpots):l18_DfaOf_g 6000 p=some true:=by
 obtain ⟨b,h1,h2⟩:=small_p (p:=p)
 unfold l18_DfaOf_g
 rw [h1,Option.bind_some]
 cases b with
 | false=>
   rw [works18]
   rfl
 | true =>
   have hp:=h2 rfl
   have hz:=same_refl ⟨0,[],[],[]⟩ (by simp) (by simp) (by simp) (by simp)
   cases hok:okB p with
   | false=>
     rw [dof_bad hp hok (by omega),rof_bad hp hok (by omega)]
     simp only [Bool.not_true,_root_.cond_false,Option.bind_some,hz,_root_.cond_true,cm_eql,cond_dec,if_true,works18]
   | true=>
     have hw:=wide_le (blkS p.Sets)
     have hb:=(blkS_blk p.Sets).len
     obtain ⟨z,q1,q2⟩:=ofS_some (p:=p) (bs:=bytesOf (blkS p.Sets)) 6000 0 [[]] [p.None] [] (by simp) (by simp) rfl (by simp) rfl (by simp) (by omega)
     rw [dof_p hp hok (by omega),rof_ok hp hok (by omega),q1]
     simp only [Option.map_some,Bool.not_true,_root_.cond_false,Option.bind_some]
     have hs:r18_Same_g 6000 (outS (blkS p.Sets) z).1 (outS (blkS p.Sets) z).1=some true:=by
      match z,q2 with
      | none,_=>exact hz
      | some (s',fi',nx'),q2=>
        obtain ⟨a1,a2,a3,a4⟩:=q2 s' fi' nx' rfl
        refine same_refl ⟨0,fi',blkS p.Sets,nx'⟩ (by simp only;omega) (by simp only;omega) (by simp only;omega) (fun r hr=>?_)
        have:=a4 r hr
        simp [bytesOf] at this
        omega
     rw [hs]
     simp only [Option.bind_some,_root_.cond_true,cm_eql,cond_dec,if_true,works18]
end Dq
end Go.Proofs.YtjhbgkakhaonaaaGreatDoor
namespace Go.Proofs.YtjhbgkakhaonaaaGreatDoor
open Go Go.RowKit
open Ab Sh
namespace Gn
theorem r17_Right_w {N:Nat} {p0:List Int} {r:Bool} (h:r17_Right_g N p0=some r):FunS Tryz.prog 59 [.t (.slc (rw _ (cI .i64) p0))] (r17_Right_s rw) r:=by
 refine fun_w lay_ok Tryz.call59 Tryz.func59 rfl ?_
 intro A W E Q R hE hR hf hQ;rcases W with ⟨ar,cm,conj,cv,sl,sc,ct,sa,ss,ll,_,_,_,_,mi,mx,_,_,_,_,_⟩
 rw [←hR]
 unfold r17_Right_g at h
 rw [q_cm hE,q_ll hE,←hR] at h
 cbv
 refine L_if hE h (fun h=>?_) (fun h=>?_)<;>cbv
 · exact And.left (hQ _ _ _ rfl rfl (by cases h;subst hR;rfl))
 refine L_for hE lay_ok 0 (fun g:Int × Int × Nat=>[(2,fB false),(3,fI .i64 g.1),(4,fI .i64 g.2.1)]) (fun g=>[]) (fun g=>r17_Right_l1 p0 g.2.2 g.1 g.2.1=some r) (fun g=>g.2.2) (_,_,N) h ?_ ?_
 · (cbv;(try simp only [e_rnil hR]);repeat' (first | exact trivial | exact rfl | exact Or.inr trivial | apply And.intro))
 rintro ⟨v1,v2,m1⟩ h Q1 hN1 hT1 hX1
 have h:r17_Right_l1 p0 m1 v1 v2=some r:=h
 cases m1 with
 | zero=>exact nomatch (show (none:Option _)=some _ from h)
 | succ m1=>
 rw [r17_Right_l1] at h
 rw [q_ar hE,q_cm hE] at h
 cbv
 refine L_if hE h (fun h=>?_) (fun h=>?_)<;>cbv
 · refine L_rgJ hE lay_ok h 0 (fun j3:Bool=>[(25,fB j3)]) (fun j3=>[]) (fun j3 h=>?_) (fun j3 h=>?_)<;>cbv
   · refine L_row hE hR h fun r3 h=>?_;cbv
     refine L_if hE h (fun h=>?_) (fun h=>?_)<;>cbv
     · cases h;(cbv;(try simp only [e_rnil hR]);repeat' (first | exact trivial | exact rfl | exact Or.inr trivial | apply And.intro))
     refine L_row hE hR h fun r4 h=>?_;cbv
     cases h;(cbv;(try simp only [e_rnil hR]);repeat' (first | exact trivial | exact rfl | exact Or.inr trivial | apply And.intro))
   refine L_if hE h (fun h=>?_) (fun h=>?_)<;>cbv
   · refine hT1 _ ?_
     exact And.left (hQ _ _ _ rfl rfl (by cases h;subst hR;rfl))
   refine L_row hE hR h fun r5 h=>?_;cbv
   refine L_cdJ hE lay_ok h 0 (fun j4:Int=>[(3,fI .i64 j4)]) (fun j4=>[]) (fun j4 h=>?_) (fun j4 h=>?_)<;>cbv
   · refine L_if hE h (fun h=>?_) (fun h=>?_)<;>cbv
     · refine L_row hE hR h fun r6 h=>?_;cbv
       cases h;(cbv;(try simp only [e_rnil hR]);repeat' (first | exact trivial | exact rfl | exact Or.inr trivial | apply And.intro))
     cases h;(cbv;(try simp only [e_rnil hR]);repeat' (first | exact trivial | exact rfl | exact Or.inr trivial | apply And.intro))
   refine hN1 _ (_,_,m1) [] h (Nat.lt_succ_self _) trivial ?_;(cbv;(try simp only [e_rnil hR]);repeat' (first | exact trivial | exact rfl | exact Or.inr trivial | apply And.intro))
 refine hX1 _ _ ?_;cbv
 exact And.left (hQ _ _ _ rfl rfl (by cases h;subst hR;rfl))
end Gn
end Go.Proofs.YtjhbgkakhaonaaaGreatDoor
namespace Go.Proofs.YtjhbgkakhaonaaaGreatDoor
open Go Go.RowKit
open Ab Sh
namespace Gn
theorem r17_Count_w {N:Nat} {p0:List Int} {r:Int} (h:r17_Count_g N p0=some r):FunS Tryz.prog 28 [.t (.slc (rw _ (cI .i64) p0))] (r17_Count_s rw) r:=by
 refine fun_w lay_ok Tryz.call28 Tryz.func28 rfl ?_
 intro A W E Q R hE hR hf hQ;rcases W with ⟨ar,cm,conj,cv,sl,sc,ct,sa,ss,ll,_,_,_,_,mi,mx,_,_,_,_,_⟩
 rw [←hR]
 unfold r17_Count_g at h
 skip
 cbv
 refine L_for hE lay_ok 0 (fun g:Int × Int × Nat=>[(3,fI .i64 g.1),(4,fI .i64 g.2.1)]) (fun g=>[]) (fun g=>r17_Count_l1 N p0 g.2.2 g.1 g.2.1=some r) (fun g=>g.2.2) (_,_,N) h ?_ ?_
 · (cbv;(try simp only [e_rnil hR]);repeat' (first | exact trivial | exact rfl | exact Or.inr trivial | apply And.intro))
 rintro ⟨v1,v2,m1⟩ h Q1 hN1 hT1 hX1
 have h:r17_Count_l1 N p0 m1 v1 v2=some r:=h
 cases m1 with
 | zero=>exact nomatch (show (none:Option _)=some _ from h)
 | succ m1=>
 rw [r17_Count_l1] at h
 rw [q_ar hE,q_cm hE,q_ll hE,←hR] at h
 cbv
 refine L_rgJ hE lay_ok h 0 (fun j1:Bool=>[(12,fB j1)]) (fun j1=>[]) (fun j1 h=>?_) (fun j1 h=>?_)<;>cbv
 · refine L_if hE h (fun h=>?_) (fun h=>?_)<;>cbv
   · refine L_call hE hR h (fun _ e=>r17_Right_w e) (by subst hR;rfl) rfl fun a3 h=>?_;cbv
     cases h;(cbv;(try simp only [e_rnil hR]);repeat' (first | exact trivial | exact rfl | exact Or.inr trivial | apply And.intro))
   cases h;(cbv;(try simp only [e_rnil hR]);repeat' (first | exact trivial | exact rfl | exact Or.inr trivial | apply And.intro))
 refine L_if hE h (fun h=>?_) (fun h=>?_)<;>cbv
 · refine L_row hE hR h fun r4 h=>?_;cbv
   refine L_cdJ hE lay_ok h 0 (fun j2:Int=>[(3,fI .i64 j2)]) (fun j2=>[]) (fun j2 h=>?_) (fun j2 h=>?_)<;>cbv
   · refine L_if hE h (fun h=>?_) (fun h=>?_)<;>cbv
     · refine L_row hE hR h fun r5 h=>?_;cbv
       cases h;(cbv;(try simp only [e_rnil hR]);repeat' (first | exact trivial | exact rfl | exact Or.inr trivial | apply And.intro))
     cases h;(cbv;(try simp only [e_rnil hR]);repeat' (first | exact trivial | exact rfl | exact Or.inr trivial | apply And.intro))
   refine hN1 _ (_,_,m1) [] h (Nat.lt_succ_self _) trivial ?_;(cbv;(try simp only [e_rnil hR]);repeat' (first | exact trivial | exact rfl | exact Or.inr trivial | apply And.intro))
 refine hX1 _ _ ?_;cbv
 exact And.left (hQ _ _ _ rfl rfl (by cases h;subst hR;rfl))
theorem r18_Right_w {N:Nat} {p0:GDfa} {r:Bool} (h:r18_Right_g N p0=some r):FunS Tryz.prog 10 [.agg [fI .i64 p0.Start,.t (.slc (rw _ cB p0.Final)),.t (.slc (rw _ (cI .i64) p0.Block)),.t (.slc (rw _ (cLs (cI .i64)) p0.Next))]] (r18_Right_s rw) r:=by
 refine fun_w lay_ok Tryz.call10 Tryz.func10 rfl ?_
 intro A W E Q R hE hR hf hQ;rcases W with ⟨ar,cm,conj,cv,sl,sc,ct,sa,ss,ll,_,_,_,_,mi,mx,_,_,_,_,_⟩
 rw [←hR]
 unfold r18_Right_g at h
 rw [q_cm hE,q_ll hE,←hR] at h
 cbv
 refine L_call hE hR h (fun _ e=>r17_Count_w e) (by subst hR;rfl) rfl fun a1 h=>?_;cbv
 refine L_rgJ hE lay_ok h 1 (fun j1:Bool=>[(40,fB j1)]) (fun j1=>[]) (fun j1 h=>?_) (fun j1 h=>?_)<;>cbv
 · refine L_if hE h (fun h=>?_) (fun h=>?_)<;>cbv
   · cases h;(cbv;(try simp only [e_rnil hR]);repeat' (first | exact trivial | exact rfl | exact Or.inr trivial | apply And.intro))
   refine L_if hE h (fun h=>?_) (fun h=>?_)<;>cbv
   · cases h;(cbv;(try simp only [e_rnil hR]);repeat' (first | exact trivial | exact rfl | exact Or.inr trivial | apply And.intro))
   refine L_if hE h (fun h=>?_) (fun h=>?_)<;>cbv
   · cases h;(cbv;(try simp only [e_rnil hR]);repeat' (first | exact trivial | exact rfl | exact Or.inr trivial | apply And.intro))
   refine L_if hE h (fun h=>?_) (fun h=>?_)<;>cbv
   · cases h;(cbv;(try simp only [e_rnil hR]);repeat' (first | exact trivial | exact rfl | exact Or.inr trivial | apply And.intro))
   refine L_if hE h (fun h=>?_) (fun h=>?_)<;>cbv
   · cases h;(cbv;(try simp only [e_rnil hR]);repeat' (first | exact trivial | exact rfl | exact Or.inr trivial | apply And.intro))
   cases h;(cbv;(try simp only [e_rnil hR]);repeat' (first | exact trivial | exact rfl | exact Or.inr trivial | apply And.intro))
 refine L_if hE h (fun h=>?_) (fun h=>?_)<;>cbv
 · exact And.left (hQ _ _ _ rfl rfl (by cases h;subst hR;rfl))
 refine L_for hE lay_ok 1 (fun g:Int × Nat=>[(2,fB false),(5,fI .i64 g.1)]) (fun g=>[]) (fun g=>r18_Right_l1 N p0 a1 g.2 g.1=some r) (fun g=>g.2) (_,N) h ?_ ?_
 · (cbv;(try simp only [e_rnil hR]);repeat' (first | exact trivial | exact rfl | exact Or.inr trivial | apply And.intro))
 rintro ⟨v2,m1⟩ h Q1 hN1 hT1 hX1
 have h:r18_Right_l1 N p0 a1 m1 v2=some r:=h
 cases m1 with
 | zero=>exact nomatch (show (none:Option _)=some _ from h)
 | succ m1=>
 rw [r18_Right_l1] at h
 rw [q_cm hE,q_ll hE,←hR] at h
 cbv
 refine L_if hE h (fun h=>?_) (fun h=>?_)<;>cbv
 · refine L_rowL hE hR h fun r3 h=>?_;cbv
   refine L_if hE h (fun h=>?_) (fun h=>?_)<;>cbv
   · refine hT1 _ ?_
     exact And.left (hQ _ _ _ rfl rfl (by cases h;subst hR;rfl))
   refine L_for hE lay_ok 1 (fun g:Int × Nat=>[(2,fB false),(6,fI .i64 g.1)]) (fun g=>[]) (fun g=>r18_Right_l2 (r18_Right_l1 N p0 a1 m1) p0 a1 v2 g.2 g.1=some r) (fun g=>g.2) (_,N) h ?_ ?_
   · (cbv;(try simp only [e_rnil hR]);repeat' (first | exact trivial | exact rfl | exact Or.inr trivial | apply And.intro))
   rintro ⟨v4,m2⟩ h Q2 hN2 hT2 hX2
   have h:r18_Right_l2 (r18_Right_l1 N p0 a1 m1) p0 a1 v2 m2 v4=some r:=h
   cases m2 with
   | zero=>exact nomatch (show (none:Option _)=some _ from h)
   | succ m2=>
   rw [r18_Right_l2] at h
   rw [q_ar hE,q_cm hE,q_ll hE,←hR] at h
   cbv
   refine L_if hE h (fun h=>?_) (fun h=>?_)<;>cbv
   · refine L_rgJ hE lay_ok h 1 (fun j5:Bool=>[(79,fB j5)]) (fun j5=>[]) (fun j5 h=>?_) (fun j5 h=>?_)<;>cbv
     · refine L_rowL hE hR h fun r5 h=>?_;cbv
       refine L_row hE hR h fun r6 h=>?_;cbv
       refine L_if hE h (fun h=>?_) (fun h=>?_)<;>cbv
       · cases h;(cbv;(try simp only [e_rnil hR]);repeat' (first | exact trivial | exact rfl | exact Or.inr trivial | apply And.intro))
       refine L_rowL hE hR h fun r7 h=>?_;cbv
       refine L_row hE hR h fun r8 h=>?_;cbv
       cases h;(cbv;(try simp only [e_rnil hR]);repeat' (first | exact trivial | exact rfl | exact Or.inr trivial | apply And.intro))
     refine L_if hE h (fun h=>?_) (fun h=>?_)<;>cbv
     · refine hT2 _ ?_
       refine hT1 _ ?_
       exact And.left (hQ _ _ _ rfl rfl (by cases h;subst hR;rfl))
     refine hN2 _ (_,m2) [] h (Nat.lt_succ_self _) trivial ?_;(cbv;(try simp only [e_rnil hR]);repeat' (first | exact trivial | exact rfl | exact Or.inr trivial | apply And.intro))
   refine hX2 _ _ ?_;cbv
   refine hN1 _ (_,m1) [] h (Nat.lt_succ_self _) trivial ?_;(cbv;(try simp only [e_rnil hR]);repeat' (first | exact trivial | exact rfl | exact Or.inr trivial | apply And.intro))
 refine hX1 _ _ ?_;cbv
 exact And.left (hQ _ _ _ rfl rfl (by cases h;subst hR;rfl))
theorem r18_State_w {N:Nat} {p0:GDfa} {p1:ByteArray} {r:Int} (h:r18_State_g N p0 p1=some r):FunS Tryz.prog 12 [.agg [fI .i64 p0.Start,.t (.slc (rw _ cB p0.Final)),.t (.slc (rw _ (cI .i64) p0.Block)),.t (.slc (rw _ (cLs (cI .i64)) p0.Next))],fS p1] (r18_State_s rw) r:=by
 refine fun_w lay_ok Tryz.call12 Tryz.func12 rfl ?_
 intro A W E Q R hE hR hf hQ;rcases W with ⟨ar,cm,conj,cv,sl,sc,ct,sa,ss,ll,_,_,_,_,mi,mx,_,_,_,_,_⟩
 rw [←hR]
 unfold r18_State_g at h
 skip
 cbv
 refine L_call hE hR h (fun _ e=>r18_Right_w e) (by subst hR;rfl) rfl fun a1 h=>?_;cbv
 refine L_if hE h (fun h=>?_) (fun h=>?_)<;>cbv
 · exact And.left (hQ _ _ _ rfl rfl (by cases h;subst hR;rfl))
 refine L_for hE lay_ok 1 (fun g:Int × Int × Nat=>[(5,fI .i64 g.1),(6,fI .i64 g.2.1)]) (fun g=>[]) (fun g=>r18_State_l1 p0 p1 g.2.2 g.1 g.2.1=some r) (fun g=>g.2.2) (_,_,N) h ?_ ?_
 · (cbv;(try simp only [e_rnil hR]);repeat' (first | exact trivial | exact rfl | exact Or.inr trivial | apply And.intro))
 rintro ⟨v2,v3,m1⟩ h Q1 hN1 hT1 hX1
 have h:r18_State_l1 p0 p1 m1 v2 v3=some r:=h
 cases m1 with
 | zero=>exact nomatch (show (none:Option _)=some _ from h)
 | succ m1=>
 rw [r18_State_l1] at h
 rw [q_ar hE,q_cm hE,q_cv hE,q_sl hE,q_sa hE] at h
 cbv
 refine L_if hE h (fun h=>?_) (fun h=>?_)<;>cbv
 · refine L_whole hE lay_ok (by kernel_rfl) (by kernel_rfl) ?_;cbv
   refine L_rowL hE hR h fun r4 h=>?_;cbv
   refine L_sin hE h fun h=>?_
   refine L_row hE hR h fun r5 h=>?_;cbv
   refine L_row hE hR h fun r6 h=>?_;cbv
   refine hN1 _ (_,_,m1) [] h (Nat.lt_succ_self _) trivial ?_;(cbv;(try simp only [e_rnil hR]);repeat' (first | exact trivial | exact rfl | exact Or.inr trivial | apply And.intro))
 refine hX1 _ _ ?_;cbv
 exact And.left (hQ _ _ _ rfl rfl (by cases h;subst hR;rfl))
theorem r18_Run_w {N:Nat} {p0:GDfa} {p1:ByteArray} {r:Bool} (h:r18_Run_g N p0 p1=some r):FunS Tryz.prog 14 [.agg [fI .i64 p0.Start,.t (.slc (rw _ cB p0.Final)),.t (.slc (rw _ (cI .i64) p0.Block)),.t (.slc (rw _ (cLs (cI .i64)) p0.Next))],fS p1] (r18_Run_s rw) r:=by
 refine fun_w lay_ok Tryz.call14 Tryz.func14 rfl ?_
 intro A W E Q R hE hR hf hQ;rcases W with ⟨ar,cm,conj,cv,sl,sc,ct,sa,ss,ll,_,_,_,_,mi,mx,_,_,_,_,_⟩
 rw [←hR]
 unfold r18_Run_g at h
 rw [q_cm hE] at h
 cbv
 refine L_call hE hR h (fun _ e=>r18_State_w e) (by subst hR;rfl) rfl fun a1 h=>?_;cbv
 refine L_rgJ hE lay_ok h 1 (fun j1:Bool=>[(4,fB j1)]) (fun j1=>[]) (fun j1 h=>?_) (fun j1 h=>?_)<;>cbv
 · refine L_if hE h (fun h=>?_) (fun h=>?_)<;>cbv
   · refine L_row hE hR h fun r2 h=>?_;cbv
     cases h;(cbv;(try simp only [e_rnil hR]);repeat' (first | exact trivial | exact rfl | exact Or.inr trivial | apply And.intro))
   cases h;(cbv;(try simp only [e_rnil hR]);repeat' (first | exact trivial | exact rfl | exact Or.inr trivial | apply And.intro))
 exact And.left (hQ _ _ _ rfl rfl (by cases h;subst hR;rfl))
end Gn
end Go.Proofs.YtjhbgkakhaonaaaGreatDoor
namespace Go.Proofs.YtjhbgkakhaonaaaGreatDoor
open Go Go.RowKit
open Ab Sh
namespace Gn
theorem l18_DfaRuns_w {N : Nat} {p0:GDfa} {p1:ByteArray} {r:Bool} (h:l18_DfaRuns_g N p0 p1=some r):FunS Tryz.prog 3 [.agg [fI .i64 p0.Start,.t (.slc (rw _ cB p0.Final)),.t (.slc (rw _ (cI .i64) p0.Block)),.t (.slc (rw _ (cLs (cI .i64)) p0.Next))],fS p1] (l18_DfaRuns_s rw) r:=by
 refine fun_w lay_ok Tryz.call3 Tryz.func3 rfl ?_
 intro A W E Q R hE hR hf hQ;rcases W with ⟨ar,cm,conj,cv,sl,sc,ct,sa,ss,ll,_,_,_,_,mi,mx,_,_,_,_,_⟩
 rw [←hR]
 unfold l18_DfaRuns_g at h
 rw [q_cm hE,q_conj hE,q_sl hE] at h
 cbv
 refine L_rgJ hE lay_ok h 1 (fun j1:Bool=>[(11,fB j1)]) (fun j1=>[]) (fun j1 h=>?_) (fun j1 h=>?_)<;>cbv
 · refine L_call hE hR h (fun _ e=>l18_Great_w e) (by subst hR;rfl) rfl fun a1 h=>?_;cbv
   refine L_if hE h (fun h=>?_) (fun h=>?_)<;>cbv
   · cases h;(cbv;(try simp only [e_rnil hR]);repeat' (first | exact trivial | exact rfl | exact Or.inr trivial | apply And.intro))
   cases h;(cbv;(try simp only [e_rnil hR]);repeat' (first | exact trivial | exact rfl | exact Or.inr trivial | apply And.intro))
 refine L_if hE h (fun h=>?_) (fun h=>?_)<;>cbv
 · refine L_call hE hR h (fun _ e=>l18_works_w e) rfl rfl fun a2 h=>?_;cbv
   exact And.left (hQ _ _ _ rfl rfl (by cases h;subst hR;rfl))
 refine L_whole hE lay_ok (by kernel_rfl) (by kernel_rfl) ?_;cbv
 refine L_pcall hE hR h (fun _ e=>dfa_Right_w e) (by subst hR;rfl) rfl fun a3 h=>?_;cbv
 refine L_pcall hE hR h (fun _ e=>r18_Right_w e) (by subst hR;rfl) rfl fun a4 h=>?_;cbv
 refine L_if hE h (fun h=>?_) (fun h=>?_)<;>cbv
 · refine L_if hE h (fun h => ?_) (fun h=>?_)<;>cbv
   · refine L_if hE h (fun h =>?_) (fun h=>?_)<;>cbv
     · refine L_pcall hE hR h (fun _ e=>dfa_State_w e) (by subst hR;rfl) rfl fun a5 h=>?_;cbv
       refine L_if hE h (fun h=>?_) (fun h=>?_)<;>cbv
       · refine L_if hE h (fun h =>?_) (fun h=>?_)<;>cbv
         · refine L_if hE h (fun h =>?_) (fun h=>?_)<;>cbv
           · refine L_pcall hE hR h (fun _ e=>r18_State_w e) (by subst hR;rfl) rfl fun a6 h=>?_;cbv
             refine L_if hE h (fun h=>?_) (fun h=>?_)<;>cbv
             · refine L_if hE h (fun h=>?_) (fun h=>?_)<;>cbv
               · refine L_if hE h (fun h=>?_) (fun h=>?_)<;>cbv
                 · refine L_if hE h (fun h=>?_) (fun h=>?_)<;>cbv
                   · refine L_if hE h (fun h=>?_) (fun h=>?_)<;>cbv
                     · refine L_pcall hE hR h (fun _ e=>dfa_Run_w e) (by subst hR;rfl) rfl fun a7 h=>?_;cbv
                       refine L_if hE h (fun h=>?_) (fun h=>?_)<;>cbv
                       · refine L_if hE h (fun h=>?_) (fun h=>?_)<;>cbv
                         · refine L_if hE h (fun h=>?_) (fun h=>?_)<;>cbv
                           · refine L_pcall hE hR h (fun _ e=>r18_Run_w e) (by subst hR;rfl) rfl fun a8 h=>?_;cbv
                             refine L_if hE h (fun h=>?_) (fun h=>?_)<;>cbv
                             · refine L_if hE h (fun h=>?_) (fun h=>?_)<;>cbv
                               · refine L_if hE h (fun h=>?_) (fun h=>?_)<;>cbv
                                 · refine L_pcall hE hR h (fun _ e=>l18_works_w e) rfl rfl fun a9 h=>?_;cbv
                                   refine L_if hE h (fun h=>?_) (fun h=>?_)<;>cbv
                                   · exact And.left (hQ _ _ _ rfl rfl (by cases h;subst hR;rfl))
                                   exact nomatch h
                                 refine L_if hE h (fun h=>?_) (fun h=>?_)<;>cbv
                                 · exact nomatch h
                                 exact And.left (hQ _ _ _ rfl rfl (by cases h;subst hR;rfl))
                               exact nomatch h
                             exact nomatch h
                           exact nomatch h
                         exact nomatch h
                       exact nomatch h
                     exact nomatch h
                   exact nomatch h
                 refine L_if hE h (fun h=>?_) (fun h=>?_)<;>cbv
                 · exact nomatch h
                 refine L_if hE h (fun h=>?_) (fun h=>?_)<;>cbv
                 · exact nomatch h
                 refine L_if hE h (fun h=>?_) (fun h=>?_)<;>cbv
                 · exact nomatch h
                 refine L_if hE h (fun h=>?_) (fun h=>?_)<;>cbv
                 · exact nomatch h
                 refine L_if hE h (fun h=>?_) (fun h=>?_)<;>cbv
                 · exact nomatch h
                 refine L_if hE h (fun h=>?_) (fun h=>?_)<;>cbv
                 · exact nomatch h
                 refine L_if hE h (fun h=>?_) (fun h=>?_)<;>cbv
                 · exact nomatch h
                 refine L_f hE ?_;cbv
                 refine L_f hE ?_;cbv
                 exact And.left (hQ _ _ _ rfl rfl (by cases h;subst hR;rfl))
               exact nomatch h
             exact nomatch h
           exact nomatch h
         exact nomatch h
       exact nomatch h
     exact nomatch h
   exact nomatch h
 refine L_if hE h (fun h=>?_) (fun h=>?_)<;>cbv
 · exact nomatch h
 refine L_if hE h (fun h=>?_) (fun h=>?_)<;>cbv
 · exact nomatch h
 refine L_if hE h (fun h=>?_) (fun h=>?_)<;>cbv
 · exact nomatch h
 refine L_if hE h (fun h=>?_) (fun h=>?_)<;>cbv
 · exact nomatch h
 refine L_if hE h (fun h=>?_) (fun h=>?_)<;>cbv
 · exact nomatch h
 refine L_if hE h (fun h=>?_) (fun h=>?_)<;>cbv
 · exact nomatch h
 refine L_if hE h (fun h=>?_) (fun h=>?_)<;>cbv
 · exact nomatch h
 refine L_f hE ?_;cbv
 refine L_f hE ?_;cbv
 refine L_f hE ?_;cbv
 refine L_f hE ?_;cbv
 refine L_f hE ?_;cbv
 refine L_f hE ?_;cbv
 refine L_f hE ?_;cbv
 refine L_f hE ?_;cbv
 refine L_f hE ?_;cbv
 refine L_f hE ?_;cbv
 exact And.left (hQ _ _ _ rfl rfl (by cases h;subst hR;rfl))
theorem l18_Small_w {N:Nat} {p0:GSpots} {p1:Int} {r:Bool} (h:l18_Small_g N p0 p1=some r):FunS Tryz.prog 15 [.agg [.t (.slc (rw _ cSet p0.Sets)),fB p0.None,.t (.slc (rw _ (cI .i64) p0.First)),.t (.slc (rw _ (cI .i64) p0.Last)),.t (.slc (rw _ (cLs (cI .i64)) p0.Next))],fI .i64 p1] (l18_Small_s rw) r:=by
 refine fun_w lay_ok Tryz.call15 Tryz.func15 rfl ?_
 intro A W E Q R hE hR hf hQ;rcases W with ⟨ar,cm,conj,cv,sl,sc,ct,sa,ss,ll,_,_,_,_,mi,mx,_,_,_,_,_⟩
 rw [←hR]
 unfold l18_Small_g at h
 rw [q_cm hE,q_ll hE,←hR] at h
 cbv
 refine L_rgJ hE lay_ok h 1 (fun j1:Bool=>[(29,fB j1)]) (fun j1=>[]) (fun j1 h=>?_) (fun j1 h=>?_)<;>cbv
 · refine L_if hE h (fun h=>?_) (fun h=>?_)<;>cbv
   · cases h;(cbv;(try simp only [e_rnil hR]);repeat' (first | exact trivial | exact rfl | exact Or.inr trivial | apply And.intro))
   refine L_if hE h (fun h=>?_) (fun h=>?_)<;>cbv
   · cases h;(cbv;(try simp only [e_rnil hR]);repeat' (first | exact trivial | exact rfl | exact Or.inr trivial | apply And.intro))
   refine L_if hE h (fun h=>?_) (fun h=>?_)<;>cbv
   · cases h;(cbv;(try simp only [e_rnil hR]);repeat' (first | exact trivial | exact rfl | exact Or.inr trivial | apply And.intro))
   cases h;(cbv;(try simp only [e_rnil hR]);repeat' (first | exact trivial | exact rfl | exact Or.inr trivial | apply And.intro))
 refine L_if hE h (fun h=>?_) (fun h=>?_)<;>cbv
 · exact And.left (hQ _ _ _ rfl rfl (by cases h;subst hR;rfl))
 refine L_for hE lay_ok 1 (fun g:Int × Nat=>[(4,fB false),(5,fI .i64 g.1)]) (fun g=>[]) (fun g=>l18_Small_l1 p0 g.2 g.1=some r) (fun g=>g.2) (_,N) h ?_ ?_
 · (cbv;(try simp only [e_rnil hR]);repeat' (first | exact trivial | exact rfl | exact Or.inr trivial | apply And.intro))
 rintro ⟨v1,m1⟩ h Q1 hN1 hT1 hX1
 have h:l18_Small_l1 p0 m1 v1=some r:=h
 cases m1 with
 | zero=>exact nomatch (show (none:Option _)=some _ from h)
 | succ m1=>
 rw [l18_Small_l1] at h
 rw [q_ar hE,q_cm hE,q_ll hE,←hR] at h
 cbv
 refine L_if hE h (fun h=>?_) (fun h=>?_)<;>cbv
 · refine L_rowL hE hR h fun r2 h=>?_;cbv
   refine L_if hE h (fun h=>?_) (fun h=>?_)<;>cbv
   · refine hT1 _ ?_
     exact And.left (hQ _ _ _ rfl rfl (by cases h;subst hR;rfl))
   refine hN1 _ (_,m1) [] h (Nat.lt_succ_self _) trivial ?_;(cbv;(try simp only [e_rnil hR]);repeat' (first | exact trivial | exact rfl | exact Or.inr trivial | apply And.intro))
 refine hX1 _ _ ?_;cbv
 exact And.left (hQ _ _ _ rfl rfl (by cases h;subst hR;rfl))
theorem r16_rising_w {N:Nat} {p0:List Int} {p1:Int} {r:Bool} (h:r16_rising_g N p0 p1=some r):FunS Tryz.prog 67 [.t (.slc (rw _ (cI .i64) p0)),fI .i64 p1] (r16_rising_s rw) r:=by
 refine fun_w lay_ok Tryz.call67 Tryz.func67 rfl ?_
 intro A W E Q R hE hR hf hQ;rcases W with ⟨ar,cm,conj,cv,sl,sc,ct,sa,ss,ll,_,_,_,_,mi,mx,_,_,_,_,_⟩
 rw [←hR]
 unfold r16_rising_g at h
 skip
 cbv
 refine L_for hE lay_ok 0 (fun g:Int × Nat=>[(4,fB false),(5,fI .i64 g.1)]) (fun g=>[]) (fun g=>r16_rising_l1 p0 p1 g.2 g.1=some r) (fun g=>g.2) (_,N) h ?_ ?_
 · (cbv;(try simp only [e_rnil hR]);repeat' (first | exact trivial | exact rfl | exact Or.inr trivial | apply And.intro))
 rintro ⟨v1,m1⟩ h Q1 hN1 hT1 hX1
 have h:r16_rising_l1 p0 p1 m1 v1=some r:=h
 cases m1 with
 | zero=>exact nomatch (show (none:Option _)=some _ from h)
 | succ m1=>
 rw [r16_rising_l1] at h
 rw [q_ar hE,q_cm hE,q_ll hE,←hR] at h
 cbv
 refine L_if hE h (fun h=>?_) (fun h=>?_)<;>cbv
 · refine L_whole hE lay_ok (by kernel_rfl) (by kernel_rfl) ?_;cbv
   refine L_row hE hR h fun r2 h=>?_;cbv
   refine L_if hE h (fun h=>?_) (fun h=>?_)<;>cbv
   · refine L_if hE h (fun h=>?_) (fun h=>?_)<;>cbv
     · refine L_if hE h (fun h=>?_) (fun h=>?_)<;>cbv
       · refine L_if hE h (fun h=>?_) (fun h=>?_)<;>cbv
         · refine L_if hE h (fun h=>?_) (fun h=>?_)<;>cbv
           · refine L_if hE h (fun h=>?_) (fun h=>?_)<;>cbv
             · refine L_if hE h (fun h=>?_) (fun h=>?_)<;>cbv
               · refine L_t hE ?_;cbv
                 refine L_t hE ?_;cbv
                 refine L_t hE ?_;cbv
                 refine L_t hE ?_;cbv
                 refine L_t hE ?_;cbv
                 refine L_t hE ?_;cbv
                 refine hT1 _ ?_
                 exact And.left (hQ _ _ _ rfl rfl (by cases h;subst hR;rfl))
               exact nomatch h
             exact nomatch h
           exact nomatch h
         exact nomatch h
       exact nomatch h
     exact nomatch h
   refine L_if hE h (fun h=>?_) (fun h=>?_)<;>cbv
   · exact nomatch h
   refine L_if hE h (fun h=>?_) (fun h=>?_)<;>cbv
   · exact nomatch h
   refine L_row hE hR h fun r3 h=>?_;cbv
   refine L_if hE h (fun h=>?_) (fun h=>?_)<;>cbv
   · exact nomatch h
   refine L_if hE h (fun h=>?_) (fun h=>?_)<;>cbv
   · exact nomatch h
   refine L_if hE h (fun h=>?_) (fun h=>?_)<;>cbv
   · exact nomatch h
   refine L_if hE h (fun h=>?_) (fun h=>?_)<;>cbv
   · exact nomatch h
   refine L_if hE h (fun h=>?_) (fun h=>?_)<;>cbv
   · refine L_if hE h (fun h=>?_) (fun h=>?_)<;>cbv
     · refine L_if hE h (fun h=>?_) (fun h=>?_)<;>cbv
       · refine L_if hE h (fun h=>?_) (fun h=>?_)<;>cbv
         · refine L_if hE h (fun h=>?_) (fun h=>?_)<;>cbv
           · refine L_t hE ?_;cbv
             refine hT1 _ ?_
             exact And.left (hQ _ _ _ rfl rfl (by cases h;subst hR;rfl))
           exact nomatch h
         exact nomatch h
       exact nomatch h
     exact nomatch h
   refine L_if hE h (fun h=>?_) (fun h=>?_)<;>cbv
   · exact nomatch h
   refine L_if hE h (fun h=>?_) (fun h=>?_)<;>cbv
   · exact nomatch h
   refine L_if hE h (fun h=>?_) (fun h=>?_)<;>cbv
   · refine L_if hE h (fun h=>?_) (fun h=>?_)<;>cbv
     · refine L_if hE h (fun h=>?_) (fun h=>?_)<;>cbv
       · refine L_if hE h (fun h=>?_) (fun h=>?_)<;>cbv
         · refine L_row hE hR h fun r4 h=>?_;cbv
           refine L_if hE h (fun h=>?_) (fun h=>?_)<;>cbv
           · refine L_if hE h (fun h=>?_) (fun h=>?_)<;>cbv
             · refine L_if hE h (fun h=>?_) (fun h=>?_)<;>cbv
               · refine L_if hE h (fun h=>?_) (fun h=>?_)<;>cbv
                 · refine L_row hE hR h fun r5 h=>?_;cbv
                   refine L_if hE h (fun h=>?_) (fun h=>?_)<;>cbv
                   · refine L_if hE h (fun h=>?_) (fun h=>?_)<;>cbv
                     · refine L_if hE h (fun h=>?_) (fun h=>?_)<;>cbv
                       · exact nomatch h
                       refine L_if hE h (fun h=>?_) (fun h=>?_)<;>cbv
                       · refine L_if hE h (fun h=>?_) (fun h=>?_)<;>cbv
                         · exact nomatch h
                         refine L_if hE h (fun h=>?_) (fun h=>?_)<;>cbv
                         · refine hT1 _ ?_
                           exact And.left (hQ _ _ _ rfl rfl (by cases h;subst hR;rfl))
                         refine hN1 _ (_,m1) [] h (Nat.lt_succ_self _) trivial ?_;(cbv;(try simp only [e_rnil hR]);repeat' (first | exact trivial | exact rfl | exact Or.inr trivial | apply And.intro))
                       exact nomatch h
                     exact nomatch h
                   exact nomatch h
                 exact nomatch h
               exact nomatch h
             exact nomatch h
           exact nomatch h
         exact nomatch h
       exact nomatch h
     exact nomatch h
   refine L_if hE h (fun h=>?_) (fun h=>?_)<;>cbv
   · exact nomatch h
   refine L_if hE h (fun h=>?_) (fun h=>?_)<;>cbv
   · exact nomatch h
   refine L_if hE h (fun h=>?_) (fun h=>?_)<;>cbv
   · exact nomatch h
   refine L_if hE h (fun h=>?_) (fun h=>?_)<;>cbv
   · exact nomatch h
   refine L_if hE h (fun h=>?_) (fun h=>?_)<;>cbv
   · exact nomatch h
   refine L_if hE h (fun h=>?_) (fun h=>?_)<;>cbv
   · exact nomatch h
   refine L_if hE h (fun h=>?_) (fun h=>?_)<;>cbv
   · exact nomatch h
   refine L_if hE h (fun h=>?_) (fun h=>?_)<;>cbv
   · exact nomatch h
   refine L_if hE h (fun h=>?_) (fun h=>?_)<;>cbv
   · exact nomatch h
   refine L_if hE h (fun h=>?_) (fun h=>?_)<;>cbv
   · exact nomatch h
   refine L_if hE h (fun h=>?_) (fun h=>?_)<;>cbv
   · exact nomatch h
   refine L_if hE h (fun h=>?_) (fun h=>?_)<;>cbv
   · exact nomatch h
   refine L_f hE ?_;cbv
   refine hN1 _ (_,m1) [] h (Nat.lt_succ_self _) trivial ?_;(cbv;(try simp only [e_rnil hR]);repeat' (first | exact trivial | exact rfl | exact Or.inr trivial | apply And.intro))
 refine hX1 _ _ ?_;cbv
 exact And.left (hQ _ _ _ rfl rfl (by cases h;subst hR;rfl))
end Gn
end Go.Proofs.YtjhbgkakhaonaaaGreatDoor
