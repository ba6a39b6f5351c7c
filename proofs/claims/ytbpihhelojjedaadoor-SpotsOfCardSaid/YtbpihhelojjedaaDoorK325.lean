/- Texts that the proof leans on. -/
import Derived.Test.YtbpihhelojjedaaDoorK324
set_option linter.unusedVariables false
set_option linter.unusedSimpArgs false
set_option maxRecDepth 100000
set_option maxHeartbeats 4000000
namespace Go.Proofs.YtbpihhelojjedaaDoor
open Go
open Sh Gn Mx
namespace Pl
mutual
def Lens:Node→Prop
 | .mk _ _ kids _ _=>kids.length≤9223372036854775807∧LensL kids
def LensL:List Node→Prop
 | []=>True
 | n::r=>Lens n∧LensL r
end
theorem lensL_iff:∀{l:List Node},LensL l↔∀n∈l,Lens n
 | []=>by simp [LensL]
 | a::r=>by rw [LensL,lensL_iff];simp
theorem Lens_len {n:Node} (h:Lens n):n.kids.length≤9223372036854775807:=by cases n;rw [Lens] at h;exact h.1
theorem Lens_kid {n c:Node} (h:Lens n) (hc:c∈n.kids):Lens c:=by cases n;rw [Lens] at h;exact lensL_iff.1 h.2 c hc
theorem top_kind {n:Node} (h:Rx.right n=true):n.kind=1∨n.kind=2∨n.kind=3∨n.kind=4:=by
 rw [Rx.right_eq,Bool.and_eq_true] at h
 have ht:=h.1
 unfold Rx.topB at ht
 simp only [Bool.and_eq_true,Bool.or_eq_true,beq_iff_eq] at ht
 have:=ht.1.1.1
 omega
theorem kids_right {n:Node} (h:Rx.right n=true):∀c∈n.kids,Rx.right c=true:=by
 rw [Rx.right_eq,Bool.and_eq_true] at h
 exact fun c hc=>((Rx.rights_iff _ _).1 h.2 c hc).1
theorem rep_right {n:Node} (h:Rx.right n=true) (h4:n.kind=4):∃c,n.kids=[c]∧∃lo:Nat,n.min=(lo:Int)∧lo≤16∧(n.max=-1∨∃hi:Nat,n.max=(hi:Int)∧lo≤hi∧hi≤16∧1≤hi):=by
 rw [Rx.right_eq,Bool.and_eq_true] at h
 have ht:=h.1
 unfold Rx.topB at ht
 simp [h4] at ht
 obtain ⟨-,h1,ht⟩:=ht
 obtain ⟨c,hc⟩:=List.length_eq_one_iff.1 h1
 unfold Rx.timesB at ht
 split at ht
 · cases ht
 · rename_i g
   simp at g ht
   refine ⟨c,hc,n.min.toNat,by omega,by omega,?_⟩
   by_cases e:n.max=-1
   · exact .inl e
   · exact .inr ⟨n.max.toNat,by omega,by omega,by omega,by omega⟩
theorem alt_right {n:Node} (h:Rx.right n=true) (h3:n.kind=3):1<n.kids.length:=by
 rw [Rx.right_eq,Bool.and_eq_true] at h
 have ht:=h.1
 unfold Rx.topB at ht
 simp [h3] at ht
 exact ht.2
theorem cap_mul (a k:Nat):min (min a 513*k) 513=min (a*k) 513:=by
 rcases Nat.le_total a 513 with h | h
 · rw [Nat.min_eq_left h]
 · rw [Nat.min_eq_right h]
   cases k with
   | zero=>rfl
   | succ k=>
     have h1:513≤513*(k+1):=Nat.le_mul_of_pos_right _ (by omega)
     have h2:513*(k+1)≤a*(k+1):=Nat.mul_le_mul_right _ h
     omega
theorem mi_mul {a k:Nat} (hk:k≤17) {x:Int} (hx:x=(k:Int)):mi (ar .mul .i64 ((min a 513:Nat):Int) x) 513=((min (a*k) 513:Nat):Int):=by
 subst hx
 have h1:min a 513*k≤513*17:=Nat.mul_le_mul (by omega) hk
 have e:((min a 513:Nat):Int)*(k:Int)=((min a 513*k:Nat):Int):=by rw [Int.natCast_mul]
 rw [ar_mul (by rw [e];omega) (by rw [e];omega),e,←cap_mul]
 unfold mi
 split<;>omega
theorem count_p:∀(m:Nat) (n:Node),n.size≤m→Lens n→Rx.right n=true→∀N,m+2≤N→spots_count_g N n=some ((min (cnt n) 513:Nat):Int):=by
 intro m
 induction m with
 | zero=>intro n h;have:=n.size_pos;omega
 | succ m ih=>
   intro n h hm hri N hN
   obtain ⟨N,rfl⟩:∃K,N=K+1:=⟨N-1,by omega⟩
   have hkl:=n.kids_le
   rw [spots_count_g,cnt_eq]
   simp only [cm_eql,cond_dec]
   by_cases k1:n.kind=1
   · rw [if_pos k1,if_pos k1];rfl
   rw [if_neg k1,if_neg k1]
   have hlen:=Lens_len hm
   have hr:∀c∈n.kids,spots_count_g N c=some ((min (cnt c) 513:Nat):Int):=fun c hc=>ih c (by have:=kid_le hc;omega) (Lens_kid hm hc) (kids_right hri c hc) N (by omega)
   have key :∀(f i S:Nat),i≤n.kids.length→n.kids.length<i+f→spots_count_l1 (spots_count_g N) n f ((min S 513:Nat):Int) i=some ((min (if n.kind=4 then (if n.max=-1 then (S+cnts (n.kids.drop i))*(n.min.toNat+1) else (S+cnts (n.kids.drop i))*n.max.toNat) else S+cnts (n.kids.drop i)) 513:Nat):Int):=by
    intro f
    induction f with
    | zero=>intro i S h1 h2;omega
    | succ f ihf=>
      intro i S h1 h2
      rw [spots_count_l1]
      by_cases c:i<n.kids.length
      · have c':cm .lss (i:Int) (ll (rw _ nodeRow n.kids))=true:=by rw [cm_lss,ll_eq];exact decide_eq_true (by omega)
        have e1:mi (ar .add .i64 ((min S 513:Nat):Int) ((min (cnt n.kids[i]) 513:Nat):Int)) 513=((min (S+cnt n.kids[i]) 513:Nat):Int):=by
         rw [ar_add (by omega) (by omega)]
         unfold mi
         split<;>omega
        rw [c',_root_.cond_true,at_in c,Option.bind_some,hr _ (List.getElem_mem c),Option.bind_some,e1,incL (by omega),ihf (i+1) _ (by omega) (by omega)]
        rw [List.drop_eq_getElem_cons c,cnts_cons,Nat.add_assoc]
      · have c':cm .lss (i:Int) (ll (rw _ nodeRow n.kids))=false:=by rw [cm_lss,ll_eq];exact decide_eq_false (by omega)
        rw [c',_root_.cond_false,List.drop_of_length_le (by omega),cnts_nil,Nat.add_zero,cm_neq,cond_not,cond_dec]
        by_cases k4:n.kind=4
        · rw [if_pos k4,if_pos k4,cm_eql,cond_dec]
          obtain ⟨c0,-,lo,e0,e1,e2⟩:=rep_right hri k4
          rcases e2 with e2 | ⟨hi,e2,e3,e4,e5⟩
          · rw [if_pos e2,if_pos e2]
            rw [mi_mul (k:=lo+1) (by omega) (by rw [e0,ar_add (by omega) (by omega)];omega),e0,Int.toNat_natCast]
          · have hne:¬ n.max=-1:=by omega
            rw [if_neg hne,if_neg hne,mi_mul (k:=hi) (by omega) e2,e2,Int.toNat_natCast]
        · rw [if_neg k4,if_neg k4]
   have:=key N 0 0 (by omega) (by omega)
   rw [Nat.zero_min,List.drop_zero,Nat.zero_add] at this
   exact this
theorem zero_p:∀(m:Nat) (n:Node),n.size≤m→Rx.right n=true→cnt n=0→∀w,lang n w↔w=[]:=by
 intro m
 induction m with
 | zero=>intro n h;have:=n.size_pos;omega
 | succ m ih=>
   intro n h hri hz w
   have hk:∀c∈n.kids,cnt c=0→∀w,lang c w↔w=[]:=fun c hc=>ih c (by have:=kid_le hc;omega) (kids_right hri c hc)
   have hr:=hri
   rcases top_kind hri with k | k | k | k
   · rw [cnt_eq,if_pos k] at hz;cases hz
   · rw [cnt_eq,if_neg (by omega),if_neg (by omega)] at hz
     obtain ⟨kd,S,kids,mn,mx⟩:=n
     have k:kd=2:=k
     subst k
     rw [lang2]
     have hk:∀c∈kids,cnt c=0→∀w,lang c w↔w=[]:=hk
     have hz:cnts kids=0:=hz
     have key:∀(kids:List Node),(∀c∈kids,cnt c=0→∀w,lang c w↔w=[])→cnts kids=0→∀w,(langCat kids w↔w=[]):=by
      intro kids
      induction kids with
      | nil=>intro _ _ w;rw [langCat];rfl
      | cons a r ihr=>
        intro hk hz w
        rw [cnts_cons] at hz
        rw [langCat_cons,lc_iff (A':=lnil) (B':=lnil) (hk a List.mem_cons_self (by omega)) (ihr (fun c hc=>hk c (List.mem_cons_of_mem _ hc)) (by omega))]
        exact lc_nil lnil w
     exact key kids hk hz w
   · have hal:=alt_right hri k
     rw [cnt_eq,if_neg (by omega),if_neg (by omega)] at hz
     obtain ⟨kd,S,kids,mn,mx⟩:=n
     have k:kd=3:=k
     subst k
     rw [lang3]
     have hk:∀c∈kids,cnt c=0→∀w,lang c w↔w=[]:=hk
     have hz:cnts kids=0:=hz
     have hal:1<kids.length:=hal
     have key:∀(kids:List Node),(∀c∈kids,cnt c=0→∀w,lang c w↔w=[])→cnts kids=0→(langAlt kids w↔kids≠[]∧w=[]):=by
      intro kids
      induction kids with
      | nil=>intro _ _;rw [langAlt];simp
      | cons a r ihr=>
        intro hk hz
        rw [cnts_cons] at hz
        rw [langAlt_cons,hk a List.mem_cons_self (by omega),ihr (fun c hc=>hk c (List.mem_cons_of_mem _ hc)) (by omega)]
        constructor
        · rintro (h | ⟨-,h⟩)<;>exact ⟨by simp,h⟩
        · exact fun h=>.inl h.2
     rw [key kids hk hz]
     exact ⟨fun h=>h.2,fun h=>⟨fun e=>by rw [e] at hal;simp at hal,h⟩⟩
   · obtain ⟨c,hc,lo,e0,e1,e2⟩:=rep_right hri k
     rw [cnt_eq,if_neg (by omega),if_pos k,hc,cnts_cons,cnts_nil,Nat.add_zero] at hz
     have hc0:cnt c=0:=by
      rcases e2 with e2 | ⟨hi,e2,-,-,e5⟩
      · rw [if_pos e2] at hz
        rcases Nat.mul_eq_zero.1 hz with h | h
        · exact h
        · omega
      · rw [if_neg (by omega),e2,Int.toNat_natCast] at hz
        rcases Nat.mul_eq_zero.1 hz with h | h
        · exact h
        · omega
     have hl:=hk c (by rw [hc];simp) hc0
     obtain ⟨kd,S,kids,mn,mx⟩:=n
     have k:kd=4:=k
     have hc:kids=[c]:=hc
     have f0:mn=(lo:Int):=e0
     have f2:mx=-1∨∃hi:Nat,mx=(hi:Int)∧lo≤hi∧hi≤16∧1≤hi:=e2
     subst k hc
     rw [lang4 (by decide) (by decide) (by decide),langRep_cons]
     constructor
     · rintro ⟨k,-,-,h⟩;exact (lp_nil hl k w).1 h
     · intro h
       exact ⟨lo,by rw [f0,Int.toNat_natCast];exact Nat.le_refl _,f2.imp id fun ⟨hi,e3,e4,_⟩=>by omega,(lp_nil hl lo w).2 h⟩
theorem write_p:∀(m:Nat) (n:Node),n.size≤m→Lens n→Rx.right n=true→∀N,2100+30*m≤N→WOk (spots_writer_write_g N) n:=by
 intro m
 induction m with
 | zero=>intro n h;have:=n.size_pos;omega
 | succ m ih=>
   intro n h hm hri N hN s b h1 h2 h3
   obtain ⟨N,rfl⟩:∃K,N=K+1:=⟨N-1,by omega⟩
   have hkl:=n.kids_le
   have hrec:∀c∈n.kids,∀K,2100+30*m≤K→WOk (spots_writer_write_g K) c:=fun c hc=>ih c (by have:=kid_le hc;omega) (Lens_kid hm hc) (kids_right hri c hc)
   have hlen:=Lens_len hm
   rw [spots_writer_write_g]
   simp only [cm_eql,cond_dec]
   rcases top_kind hri with k | k | k | k
   · rw [if_pos k,app_eq (show s.out.Sets.length+[n.set].length≤1000000000 by simp;omega),app_eq (show s.out.Next.length+([[]]:List (List Int)).length≤1000000000 by simp;omega)]
     have hc:cnt n=1:=by rw [cnt_eq,if_pos k]
     simp only [Option.bind_some,ll_eq,h1]
     rw [hc]
     refine ⟨_,[n.set],_,rfl,(wr_one h1 h2 n.set).of_iff fun w=>?_,fun k hk=>List.getElem?_append_left (by omega)⟩
     obtain ⟨kd,S,kids,mn,mx⟩:=n
     have k:kd=1:=k
     subst k
     exact (lang1 S kids mn mx w).symm
   · rw [if_neg (by omega),if_neg (by omega),if_neg (by omega)]
     have hc:cnt n=cnts n.kids:=by rw [cnt_eq,if_neg (by omega),if_neg (by omega)]
     rw [hc] at h3 ⊢
     obtain ⟨p,X,nx',r1,r2,r3⟩:=wcat_l (N:=N) (n:=n) (rec:=spots_writer_write_g N) (by omega) (by omega) (fun c hc=>hrec c hc N (by omega)) s.out.None s.out.First s.out.Last N 0 s.out.Sets s.out.Next ⟨[],[],true⟩ lnil b (by omega) (by omega) (wr_emp h1 h2) (by rw [List.drop_zero];exact h3)
     rw [List.drop_zero] at r2
     refine ⟨p,X,nx',r1,r2.of_iff fun w=>?_,r3⟩
     rw [lc_nil]
     obtain ⟨kd,S,kids,mn,mx⟩:=n
     have k:kd=2:=k
     subst k
     exact (lang2 S kids mn mx w).symm
   · rw [if_neg (by omega),if_pos k]
     have hc:cnt n=cnts n.kids:=by rw [cnt_eq,if_neg (by omega),if_neg (by omega)]
     rw [hc] at h3 ⊢
     obtain ⟨p,X,nx',r1,r2,r3⟩:=walt_l (N:=N) (n:=n) (rec:=spots_writer_write_g N) (by omega) (by omega) (fun c hc=>hrec c hc N (by omega)) s.out.None s.out.First s.out.Last N 0 s.out.Sets s.out.Next ⟨[],[],false⟩ (fun _=>False) b (by omega) (by omega) (wr_no h1 h2) (by rw [List.drop_zero];exact h3)
     rw [List.drop_zero] at r2
     refine ⟨p,X,nx',r1,r2.of_iff fun w=>?_,r3⟩
     rw [_root_.false_or]
     obtain ⟨kd,S,kids,mn,mx⟩:=n
     have k:kd=3:=k
     subst k
     exact (lang3 S kids mn mx w).symm
   · rw [if_neg (by omega),if_neg (by omega),if_pos k]
     obtain ⟨c,hc,lo,e0,e1,e2⟩:=rep_right hri k
     obtain ⟨N,rfl⟩:∃K,N=K+1:=⟨N-1,by omega⟩
     have hcm:c∈n.kids:=by rw [hc];simp
     have hcs:=kid_le hcm
     have a0:at_ n.kids 0=some c:=by rw [hc];rfl
     rw [spots_writer_often_g]
     dsimp only
     rw [a0,Option.bind_some,count_p m c (by omega) (Lens_kid hm hcm) (kids_right hri c hcm) N (by omega),Option.bind_some,cm_eql,cond_dec]
     have hcn:cnt n=if n.max=-1 then cnt c*(n.min.toNat+1) else cnt c*n.max.toNat:=by rw [cnt_eq,if_neg (by omega),if_pos k,hc,cnts_cons,cnts_nil,Nat.add_zero]
     by_cases z:cnt c=0
     · have hz:cnt n=0:=by rw [hcn,z,Nat.zero_mul,Nat.zero_mul];split<;>rfl
       rw [z,if_pos (show ((min 0 513:Nat):Int)=0 from rfl),hz,Nat.add_zero]
       refine ⟨_,[],s.out.Next,by rw [List.append_nil];rfl,?_,fun _ _=>rfl⟩
       rw [List.append_nil]
       exact (wr_emp h1 h2).of_iff fun w=>(zero_p _ n (Nat.le_refl _) hri hz w).symm
     · rw [if_neg (by omega)]
       have tot:cnt c*(lo-0)+(if n.max=-1 then cnt c else cnt c*(n.max.toNat-lo))=cnt n:=by
        rw [hcn,Nat.sub_zero,e0,Int.toNat_natCast]
        split
        · rw [Nat.mul_add,Nat.mul_one]
        · rename_i hne
          rcases e2 with e2 | ⟨hi,e2,e3,-⟩
          · exact absurd e2 hne
          · rw [e2,Int.toNat_natCast,←Nat.mul_add,show lo+(hi-lo)=hi by omega]
       obtain ⟨p,X,nx',r1,r2,r3⟩:=often_l (c:=c) (p1:=n) (M:=2100+30*m) (K:=N) (lo:=lo) (by omega) (by omega) (hrec c hcm) e0 e1 (e2.imp id fun ⟨hi,q1,q2,q3,_⟩=>⟨hi,q1,q2,q3⟩) s.out.None s.out.First s.out.Last N 0 s.out.Sets s.out.Next ⟨[],[],true⟩ b (by omega) (by omega) (wr_emp h1 h2) (by omega)
       rw [Nat.add_assoc,tot] at r2
       have r1:spots_writer_often_l1 (spots_writer_write_g N) (spots_writer_often_1_g N) N n c N 0 s.out.None s.out.First s.out.Last s.out.Sets s.out.Next [] [] true=_:=r1
       rw [r1]
       refine ⟨p,X,nx',rfl,r2.of_iff fun w=>?_,r3⟩
       obtain ⟨kd,S,kids,mn,mx⟩:=n
       have k:kd=4:=k
       have hc:kids=[c]:=hc
       have f0:mn=(lo:Int):=e0
       subst k hc
       rw [lang4 (by decide) (by decide) (by decide),langRep_cons,f0,Int.toNat_natCast]
end Pl
end Go.Proofs.YtbpihhelojjedaaDoor
