/- Texts that the proof leans on. -/
import Derived.Test.YtbpihhelojjedaaDoorK226
import Derived.Lib.DecodeN
set_option linter.unusedVariables false
set_option linter.unusedSimpArgs false
set_option maxRecDepth 100000
set_option maxHeartbeats 4000000
namespace Go.Proofs.YtbpihhelojjedaaDoor
open Go
open Sh Gn Mx
namespace Pl
mutual
def Lens:Node→Prop
 | .mk _ _ kids _ _=>kids.length≤9223372036854775807∧LensL kids
def LensL:List Node→Prop
 | []=>True
 | n::r=>Lens n∧LensL r
end
theorem lensL_iff:∀{l:List Node},LensL l↔∀n∈l,Lens n
 | []=>by simp [LensL]
 | a::r=>by rw [LensL,lensL_iff];simp
theorem Lens_len {n:Node} (h:Lens n):n.kids.length≤9223372036854775807:=by cases n;rw [Lens] at h;exact h.1
theorem Lens_kid {n c:Node} (h:Lens n) (hc:c∈n.kids):Lens c:=by cases n;rw [Lens] at h;exact lensL_iff.1 h.2 c hc
theorem top_kind {n:Node} (h:Rx.right n=true):n.kind=1∨n.kind=2∨n.kind=3∨n.kind=4:=by
 rw [Rx.right_eq,Bool.and_eq_true] at h
 have ht:=h.1
 unfold Rx.topB at ht
 simp only [Bool.and_eq_true,Bool.or_eq_true,beq_iff_eq] at ht
 have:=ht.1.1.1
 omega
theorem kids_right {n:Node} (h:Rx.right n=true):∀c∈n.kids,Rx.right c=true:=by
 rw [Rx.right_eq,Bool.and_eq_true] at h
 exact fun c hc=>((Rx.rights_iff _ _).1 h.2 c hc).1
theorem rep_right {n:Node} (h:Rx.right n=true) (h4:n.kind=4):∃c,n.kids=[c]∧∃lo:Nat,n.min=(lo:Int)∧lo≤16∧(n.max=-1∨∃hi:Nat,n.max=(hi:Int)∧lo≤hi∧hi≤16∧1≤hi):=by
 rw [Rx.right_eq,Bool.and_eq_true] at h
 have ht:=h.1
 unfold Rx.topB at ht
 simp [h4] at ht
 obtain ⟨-,h1,ht⟩:=ht
 obtain ⟨c,hc⟩:=List.length_eq_one_iff.1 h1
 unfold Rx.timesB at ht
 split at ht
 · cases ht
 · rename_i g
   simp at g ht
   refine ⟨c,hc,n.min.toNat,by omega,by omega,?_⟩
   by_cases e:n.max=-1
   · exact .inl e
   · exact .inr ⟨n.max.toNat,by omega,by omega,by omega,by omega⟩
theorem alt_right {n:Node} (h:Rx.right n=true) (h3:n.kind=3):1<n.kids.length:=by
 rw [Rx.right_eq,Bool.and_eq_true] at h
 have ht:=h.1
 unfold Rx.topB at ht
 simp [h3] at ht
 exact ht.2
theorem cap_mul (a k:Nat):min (min a 513*k) 513=min (a*k) 513:=by
 rcases Nat.le_total a 513 with h | h
 · rw [Nat.min_eq_left h]
 · rw [Nat.min_eq_right h]
   cases k with
   | zero=>rfl
   | succ k=>
     have h1:513≤513*(k+1):=Nat.le_mul_of_pos_right _ (by omega)
     have h2:513*(k+1)≤a*(k+1):=Nat.mul_le_mul_right _ h
     omega
theorem mi_mul {a k:Nat} (hk:k≤17) {x:Int} (hx:x=(k:Int)):mi (ar .mul .i64 ((min a 513:Nat):Int) x) 513=((min (a*k) 513:Nat):Int):=by
 subst hx
 have h1:min a 513*k≤513*17:=Nat.mul_le_mul (by omega) hk
 have e:((min a 513:Nat):Int)*(k:Int)=((min a 513*k:Nat):Int):=by rw [Int.natCast_mul]
 rw [ar_mul (by rw [e];omega) (by rw [e];omega),e,←cap_mul]
 unfold mi
 split<;>omega
theorem count_p:∀(m:Nat) (n:Node),n.size≤m→Lens n→Rx.right n=true→∀N,m+2≤N→spots_count_g N n=some ((min (cnt n) 513:Nat):Int):=by
 intro m
 induction m with
 | zero=>intro n h;have:=n.size_pos;omega
 | succ m ih=>
   intro n h hm hri N hN
   obtain ⟨N,rfl⟩:∃K,N=K+1:=⟨N-1,by omega⟩
   have hkl:=n.kids_le
   rw [spots_count_g,cnt_eq]
   simp only [cm_eql,cond_dec]
   by_cases k1:n.kind=1
   · rw [if_pos k1,if_pos k1];rfl
   rw [if_neg k1,if_neg k1]
   have hlen:=Lens_len hm
   have hr:∀c∈n.kids,spots_count_g N c=some ((min (cnt c) 513:Nat):Int):=fun c hc=>ih c (by have:=kid_le hc;omega) (Lens_kid hm hc) (kids_right hri c hc) N (by omega)
   have key :∀(f i S:Nat),i≤n.kids.length→n.kids.length<i+f→spots_count_l1 (spots_count_g N) n f ((min S 513:Nat):Int) i=some ((min (if n.kind=4 then (if n.max=-1 then (S+cnts (n.kids.drop i))*(n.min.toNat+1) else (S+cnts (n.kids.drop i))*n.max.toNat) else S+cnts (n.kids.drop i)) 513:Nat):Int):=by
    intro f
    induction f with
    | zero=>intro i S h1 h2;omega
    | succ f ihf=>
      intro i S h1 h2
      rw [spots_count_l1]
      by_cases c:i<n.kids.length
      · have c':cm .lss (i:Int) (ll (rw _ nodeRow n.kids))=true:=by rw [cm_lss,ll_eq];exact decide_eq_true (by omega)
        have e1:mi (ar .add .i64 ((min S 513:Nat):Int) ((min (cnt n.kids[i]) 513:Nat):Int)) 513=((min (S+cnt n.kids[i]) 513:Nat):Int):=by
         rw [ar_add (by omega) (by omega)]
         unfold mi
         split<;>omega
        rw [c',_root_.cond_true,at_in c,Option.bind_some,hr _ (List.getElem_mem c),Option.bind_some,e1,incL (by omega),ihf (i+1) _ (by omega) (by omega)]
        rw [List.drop_eq_getElem_cons c,cnts_cons,Nat.add_assoc]
      · have c':cm .lss (i:Int) (ll (rw _ nodeRow n.kids))=false:=by rw [cm_lss,ll_eq];exact decide_eq_false (by omega)
        rw [c',_root_.cond_false,List.drop_of_length_le (by omega),cnts_nil,Nat.add_zero,cm_neq,cond_not,cond_dec]
        by_cases k4:n.kind=4
        · rw [if_pos k4,if_pos k4,cm_eql,cond_dec]
          obtain ⟨c0,-,lo,e0,e1,e2⟩:=rep_right hri k4
          rcases e2 with e2 | ⟨hi,e2,e3,e4,e5⟩
          · rw [if_pos e2,if_pos e2]
            rw [mi_mul (k:=lo+1) (by omega) (by rw [e0,ar_add (by omega) (by omega)];omega),e0,Int.toNat_natCast]
          · have hne:¬ n.max=-1:=by omega
            rw [if_neg hne,if_neg hne,mi_mul (k:=hi) (by omega) e2,e2,Int.toNat_natCast]
        · rw [if_neg k4,if_neg k4]
   have:=key N 0 0 (by omega) (by omega)
   rw [Nat.zero_min,List.drop_zero,Nat.zero_add] at this
   exact this
theorem zero_p:∀(m:Nat) (n:Node),n.size≤m→Rx.right n=true→cnt n=0→∀w,lang n w↔w=[]:=by
 intro m
 induction m with
 | zero=>intro n h;have:=n.size_pos;omega
 | succ m ih=>
   intro n h hri hz w
   have hk:∀c∈n.kids,cnt c=0→∀w,lang c w↔w=[]:=fun c hc=>ih c (by have:=kid_le hc;omega) (kids_right hri c hc)
   have hr:=hri
   rcases top_kind hri with k | k | k | k
   · rw [cnt_eq,if_pos k] at hz;cases hz
   · rw [cnt_eq,if_neg (by omega),if_neg (by omega)] at hz
     obtain ⟨kd,S,kids,mn,mx⟩:=n
     have k:kd=2:=k
     subst k
     rw [lang2]
     have hk:∀c∈kids,cnt c=0→∀w,lang c w↔w=[]:=hk
     have hz:cnts kids=0:=hz
     have key:∀(kids:List Node),(∀c∈kids,cnt c=0→∀w,lang c w↔w=[])→cnts kids=0→∀w,(langCat kids w↔w=[]):=by
      intro kids
      induction kids with
      | nil=>intro _ _ w;rw [langCat];rfl
      | cons a r ihr=>
        intro hk hz w
        rw [cnts_cons] at hz
        rw [langCat_cons,lc_iff (A':=lnil) (B':=lnil) (hk a List.mem_cons_self (by omega)) (ihr (fun c hc=>hk c (List.mem_cons_of_mem _ hc)) (by omega))]
        exact lc_nil lnil w
     exact key kids hk hz w
   · have hal:=alt_right hri k
     rw [cnt_eq,if_neg (by omega),if_neg (by omega)] at hz
     obtain ⟨kd,S,kids,mn,mx⟩:=n
     have k:kd=3:=k
     subst k
     rw [lang3]
     have hk:∀c∈kids,cnt c=0→∀w,lang c w↔w=[]:=hk
     have hz:cnts kids=0:=hz
     have hal:1<kids.length:=hal
     have key:∀(kids:List Node),(∀c∈kids,cnt c=0→∀w,lang c w↔w=[])→cnts kids=0→(langAlt kids w↔kids≠[]∧w=[]):=by
      intro kids
      induction kids with
      | nil=>intro _ _;rw [langAlt];simp
      | cons a r ihr=>
        intro hk hz
        rw [cnts_cons] at hz
        rw [langAlt_cons,hk a List.mem_cons_self (by omega),ihr (fun c hc=>hk c (List.mem_cons_of_mem _ hc)) (by omega)]
        constructor
        · rintro (h | ⟨-,h⟩)<;>exact ⟨by simp,h⟩
        · exact fun h=>.inl h.2
     rw [key kids hk hz]
     exact ⟨fun h=>h.2,fun h=>⟨fun e=>by rw [e] at hal;simp at hal,h⟩⟩
   · obtain ⟨c,hc,lo,e0,e1,e2⟩:=rep_right hri k
     rw [cnt_eq,if_neg (by omega),if_pos k,hc,cnts_cons,cnts_nil,Nat.add_zero] at hz
     have hc0:cnt c=0:=by
      rcases e2 with e2 | ⟨hi,e2,-,-,e5⟩
      · rw [if_pos e2] at hz
        rcases Nat.mul_eq_zero.1 hz with h | h
        · exact h
        · omega
      · rw [if_neg (by omega),e2,Int.toNat_natCast] at hz
        rcases Nat.mul_eq_zero.1 hz with h | h
        · exact h
        · omega
     have hl:=hk c (by rw [hc];simp) hc0
     obtain ⟨kd,S,kids,mn,mx⟩:=n
     have k:kd=4:=k
     have hc:kids=[c]:=hc
     have f0:mn=(lo:Int):=e0
     have f2:mx=-1∨∃hi:Nat,mx=(hi:Int)∧lo≤hi∧hi≤16∧1≤hi:=e2
     subst k hc
     rw [lang4 (by decide) (by decide) (by decide),langRep_cons]
     constructor
     · rintro ⟨k,-,-,h⟩;exact (lp_nil hl k w).1 h
     · intro h
       exact ⟨lo,by rw [f0,Int.toNat_natCast];exact Nat.le_refl _,f2.imp id fun ⟨hi,e3,e4,_⟩=>by omega,(lp_nil hl lo w).2 h⟩
theorem write_p:∀(m:Nat) (n:Node),n.size≤m→Lens n→Rx.right n=true→∀N,2100+30*m≤N→WOk (spots_writer_write_g N) n:=by
 intro m
 induction m with
 | zero=>intro n h;have:=n.size_pos;omega
 | succ m ih=>
   intro n h hm hri N hN s b h1 h2 h3
   obtain ⟨N,rfl⟩:∃K,N=K+1:=⟨N-1,by omega⟩
   have hkl:=n.kids_le
   have hrec:∀c∈n.kids,∀K,2100+30*m≤K→WOk (spots_writer_write_g K) c:=fun c hc=>ih c (by have:=kid_le hc;omega) (Lens_kid hm hc) (kids_right hri c hc)
   have hlen:=Lens_len hm
   rw [spots_writer_write_g]
   simp only [cm_eql,cond_dec]
   rcases top_kind hri with k | k | k | k
   · rw [if_pos k,app_eq (show s.out.Sets.length+[n.set].length≤1000000000 by simp;omega),app_eq (show s.out.Next.length+([[]]:List (List Int)).length≤1000000000 by simp;omega)]
     have hc:cnt n=1:=by rw [cnt_eq,if_pos k]
     simp only [Option.bind_some,ll_eq,h1]
     rw [hc]
     refine ⟨_,[n.set],_,rfl,(wr_one h1 h2 n.set).of_iff fun w=>?_,fun k hk=>List.getElem?_append_left (by omega)⟩
     obtain ⟨kd,S,kids,mn,mx⟩:=n
     have k:kd=1:=k
     subst k
     exact (lang1 S kids mn mx w).symm
   · rw [if_neg (by omega),if_neg (by omega),if_neg (by omega)]
     have hc:cnt n=cnts n.kids:=by rw [cnt_eq,if_neg (by omega),if_neg (by omega)]
     rw [hc] at h3 ⊢
     obtain ⟨p,X,nx',r1,r2,r3⟩:=wcat_l (N:=N) (n:=n) (rec:=spots_writer_write_g N) (by omega) (by omega) (fun c hc=>hrec c hc N (by omega)) s.out.None s.out.First s.out.Last N 0 s.out.Sets s.out.Next ⟨[],[],true⟩ lnil b (by omega) (by omega) (wr_emp h1 h2) (by rw [List.drop_zero];exact h3)
     rw [List.drop_zero] at r2
     refine ⟨p,X,nx',r1,r2.of_iff fun w=>?_,r3⟩
     rw [lc_nil]
     obtain ⟨kd,S,kids,mn,mx⟩:=n
     have k:kd=2:=k
     subst k
     exact (lang2 S kids mn mx w).symm
   · rw [if_neg (by omega),if_pos k]
     have hc:cnt n=cnts n.kids:=by rw [cnt_eq,if_neg (by omega),if_neg (by omega)]
     rw [hc] at h3 ⊢
     obtain ⟨p,X,nx',r1,r2,r3⟩:=walt_l (N:=N) (n:=n) (rec:=spots_writer_write_g N) (by omega) (by omega) (fun c hc=>hrec c hc N (by omega)) s.out.None s.out.First s.out.Last N 0 s.out.Sets s.out.Next ⟨[],[],false⟩ (fun _=>False) b (by omega) (by omega) (wr_no h1 h2) (by rw [List.drop_zero];exact h3)
     rw [List.drop_zero] at r2
     refine ⟨p,X,nx',r1,r2.of_iff fun w=>?_,r3⟩
     rw [_root_.false_or]
     obtain ⟨kd,S,kids,mn,mx⟩:=n
     have k:kd=3:=k
     subst k
     exact (lang3 S kids mn mx w).symm
   · rw [if_neg (by omega),if_neg (by omega),if_pos k]
     obtain ⟨c,hc,lo,e0,e1,e2⟩:=rep_right hri k
     obtain ⟨N,rfl⟩:∃K,N=K+1:=⟨N-1,by omega⟩
     have hcm:c∈n.kids:=by rw [hc];simp
     have hcs:=kid_le hcm
     have a0:at_ n.kids 0=some c:=by rw [hc];rfl
     rw [spots_writer_often_g]
     dsimp only
     rw [a0,Option.bind_some,count_p m c (by omega) (Lens_kid hm hcm) (kids_right hri c hcm) N (by omega),Option.bind_some,cm_eql,cond_dec]
     have hcn:cnt n=if n.max=-1 then cnt c*(n.min.toNat+1) else cnt c*n.max.toNat:=by rw [cnt_eq,if_neg (by omega),if_pos k,hc,cnts_cons,cnts_nil,Nat.add_zero]
     by_cases z:cnt c=0
     · have hz:cnt n=0:=by rw [hcn,z,Nat.zero_mul,Nat.zero_mul];split<;>rfl
       rw [z,if_pos (show ((min 0 513:Nat):Int)=0 from rfl),hz,Nat.add_zero]
       refine ⟨_,[],s.out.Next,by rw [List.append_nil];rfl,?_,fun _ _=>rfl⟩
       rw [List.append_nil]
       exact (wr_emp h1 h2).of_iff fun w=>(zero_p _ n (Nat.le_refl _) hri hz w).symm
     · rw [if_neg (by omega)]
       have tot:cnt c*(lo-0)+(if n.max=-1 then cnt c else cnt c*(n.max.toNat-lo))=cnt n:=by
        rw [hcn,Nat.sub_zero,e0,Int.toNat_natCast]
        split
        · rw [Nat.mul_add,Nat.mul_one]
        · rename_i hne
          rcases e2 with e2 | ⟨hi,e2,e3,-⟩
          · exact absurd e2 hne
          · rw [e2,Int.toNat_natCast,←Nat.mul_add,show lo+(hi-lo)=hi by omega]
       obtain ⟨p,X,nx',r1,r2,r3⟩:=often_l (c:=c) (p1:=n) (M:=2100+30*m) (K:=N) (lo:=lo) (by omega) (by omega) (hrec c hcm) e0 e1 (e2.imp id fun ⟨hi,q1,q2,q3,_⟩=>⟨hi,q1,q2,q3⟩) s.out.None s.out.First s.out.Last N 0 s.out.Sets s.out.Next ⟨[],[],true⟩ b (by omega) (by omega) (wr_emp h1 h2) (by omega)
       rw [Nat.add_assoc,tot] at r2
       have r1:spots_writer_often_l1 (spots_writer_write_g N) (spots_writer_often_1_g N) N n c N 0 s.out.None s.out.First s.out.Last s.out.Sets s.out.Next [] [] true=_:=r1
       rw [r1]
       refine ⟨p,X,nx',rfl,r2.of_iff fun w=>?_,r3⟩
       obtain ⟨kd,S,kids,mn,mx⟩:=n
       have k:kd=4:=k
       have hc:kids=[c]:=hc
       have f0:mn=(lo:Int):=e0
       subst k hc
       rw [lang4 (by decide) (by decide) (by decide),langRep_cons,f0,Int.toNat_natCast]
end Pl
end Go.Proofs.YtbpihhelojjedaaDoor
namespace Go.Proofs.YtbpihhelojjedaaDoor
open Go
open Sh Gn Mx
namespace Pl
variable {p:GSpots}
theorem hs_b {k:Nat} {c:UInt8} (h:k<p.Sets.length):Hs p.Sets k c↔hasB p c (k:Int)=true:=by
 unfold Hs hasB
 rw [Int.toNat_natCast,List.getElem?_eq_getElem h]
 constructor
 · rintro ⟨S,h1,h2⟩;cases h1;exact h2
 · exact fun h=>⟨_,rfl,h⟩
theorem ed_b {k j:Nat} (h:k<p.Next.length):Ed p.Next k j↔(j:Int)∈nextOf p (k:Int):=by
 unfold Ed nextOf
 rw [Int.toNat_natCast,List.getD_eq_getElem?_getD,List.getElem?_eq_getElem h]
 constructor
 · rintro ⟨l,h1,h2⟩;cases h1;exact h2
 · exact fun h=>⟨_,rfl,h⟩
theorem run_rd (hp:Ok p):∀(w:List UInt8) (op now:List Int) (k':Nat),w≠[]→Fit p op→((k':Int)∈runL p w op now↔∃k:Nat,(k:Int)∈op∧Gk.rd (Ed p.Next) (Hs p.Sets) k w k')
 | [],_,_,_,h,_=>absurd rfl h
 | [c],op,now,k',_,ho=>by
   show (k':Int)∈nowL p c op↔_
   unfold nowL
   rw [List.mem_filter]
   constructor
   · rintro ⟨h1,h2⟩
     have:=ho.2 _ h1
     exact ⟨k',h1,(hs_b (by omega)).2 h2,.inl ⟨rfl,rfl⟩⟩
   · rintro ⟨k,h1,h2,⟨-,rfl⟩ | ⟨j,-,h⟩⟩
     · have:=ho.2 _ h1
       exact ⟨h1,(hs_b (by omega)).1 h2⟩
     · exact h.elim
 | c ::d::w,op,now,k',_,ho=>by
   rw [runL,run_rd hp (d::w) (stepL p (nowL p c op)) (nowL p c op) k' (by simp) (show Fit p (stepL p (nowL p c op)) from fit_pick hp.low)]
   have hlen:=hp.len
   constructor
   · rintro ⟨j,h1,h2⟩
     unfold stepL at h1
     rw [mem_pick,decide_eq_true_eq,List.mem_flatMap] at h1
     obtain ⟨-,x,h3,h4⟩:=h1
     unfold nowL at h3
     rw [List.mem_filter] at h3
     have hx:=ho.2 _ h3.1
     obtain ⟨k,rfl⟩:=Int.eq_ofNat_of_zero_le hx.1
     exact ⟨k,h3.1,(hs_b (by omega)).2 h3.2,.inr ⟨j,(ed_b (by omega)).2 h4,h2⟩⟩
   · rintro ⟨k,h1,h2,⟨h,-⟩ | ⟨j,h3,h4⟩⟩
     · cases h
     · have hx:=ho.2 _ h1
       have h5:=(ed_b (by omega)).1 h3
       have hf:=(hp.next_at (k:=(k:Int)) ⟨by omega,by omega⟩).2.2 _ h5
       refine ⟨j,?_,h4⟩
       unfold stepL
       rw [mem_pick,decide_eq_true_eq,List.mem_flatMap]
       refine ⟨⟨by omega,by omega⟩,k,?_,h5⟩
       unfold nowL
       rw [List.mem_filter]
       exact ⟨h1,(hs_b (by omega)).1 h2⟩
theorem match_lang {q:Gspots_part} (hp:Low p) (hok:okB p=true) (h1:p.First=q.first) (h2:p.Last=q.last) (h3:p.None=q.none) (s:ByteArray):matchB p s=true↔Gk.L (Ed p.Next) (Hs p.Sets) (pt q) s.data.toList:=by
 have hk:=ok_of hp hok
 unfold matchB
 rw [if_pos hok]
 by_cases e:s=ByteArray.empty
 · rw [if_pos e,e,h3]
   constructor
   · exact fun h=>.inl ⟨rfl,h⟩
   · rintro (⟨-,h⟩ | ⟨k,k',-,-,h⟩)
     · exact h
     · exact h.elim
 · rw [if_neg e]
   have hne:s.data.toList≠[]:=fun h=>e (by obtain ⟨⟨l⟩⟩:=s;simp at h;subst h;rfl)
   rw [List.any_eq_true]
   constructor
   · rintro ⟨x,g1,g2⟩
     rw [decide_eq_true_eq] at g2
     have hx:=hk.last.2 _ g2
     obtain ⟨k',rfl⟩:=Int.eq_ofNat_of_zero_le hx.1
     obtain ⟨k,g3,g4⟩:=(run_rd hk _ _ _ k' hne hk.first).1 g1
     exact .inr ⟨k,k',by rw [h1] at g3;exact g3,by rw [h2] at g2;exact g2,g4⟩
   · rintro (⟨h,-⟩ | ⟨k,k',g1,g2,g3⟩)
     · exact absurd h hne
     · have g1:(k:Int)∈q.first:=g1
       have g2:(k':Int)∈q.last:=g2
       exact ⟨k',(run_rd hk _ _ _ k' hne hk.first).2 ⟨k,by rw [h1];exact g1,g3⟩,by rw [decide_eq_true_eq,h2];exact g2⟩
theorem rs_of {many:Nat}:∀{l:List Int} {last:Int},l.Pairwise (·<·)→(∀x∈l,last<x∧x<(many:Int))→rs many last l=true
 | [],_,_,_=>rfl
 | x::l,last,h,hx=>by
   have h1:=List.pairwise_cons.1 h
   have h2:=hx x List.mem_cons_self
   rw [rs,if_neg (by omega)]
   exact rs_of h1.2 fun y hy=>⟨h1.1 y hy,(hx y (List.mem_cons_of_mem _ hy)).2⟩
theorem rs_rg {e:Nat} {l:List Int} (h:Rg 0 e l):rs e (-1) l=true:=rs_of h.1 fun x hx=>by have:=h.2 x hx;omega
theorem wr_match {e:Nat} {sets:List CSet} {nx:List (List Int)} {q:Gspots_part} {A:Lg} (he:e≤200) (h:Wr 0 e sets nx q A):Low ⟨sets,q.none,q.first,q.last,nx⟩∧okB ⟨sets,q.none,q.first,q.last,nx⟩=true∧∀s,matchB ⟨sets,q.none,q.first,q.last,nx⟩ s=true↔A s.data.toList:=by
 have hl:=h.len
 have hn:=h.sn.1
 have each:∀l∈nx,Rg 0 e l:=fun l hl=>by
  obtain ⟨k,hk⟩:=List.mem_iff_getElem?.1 hl
  exact h.sn.2 k l (Nat.zero_le _) hk
 have low:Low ⟨sets,q.none,q.first,q.last,nx⟩:=⟨by show sets.length≤200;omega,by show nx.length≤200;omega,by have:=rg_len h.pr.first;show q.first.length≤200;omega,by have:=rg_len h.pr.last;show q.last.length≤200;omega,fun l hl=>by have:=rg_len (each l hl);omega⟩
 have hok:okB ⟨sets,q.none,q.first,q.last,nx⟩=true:=by
  unfold okB
  simp only [hl,hn,Bool.and_eq_true,decide_eq_true_eq,Bool.not_eq_true',decide_eq_false_iff_not,List.all_eq_true]
  exact ⟨by omega,trivial,rs_rg h.pr.first,rs_rg h.pr.last,fun l hl=>rs_rg (each l hl)⟩
 exact ⟨low,hok,fun s=>(match_lang low hok rfl rfl rfl s).trans (h.lg _)⟩
end Pl
end Go.Proofs.YtbpihhelojjedaaDoor
namespace Go.Proofs.YtbpihhelojjedaaDoor
open Go Go.Lib
namespace Qu
def runeN (n b0 b1 b2 b3:Nat):Nat:=
 if b0<128 then 1
 else if 194≤b0∧b0≤223∧1<n∧128≤b1∧b1≤191 then 2
 else if 224≤b0∧b0≤239∧(2<n∧128≤b1∧b1≤191∧128≤b2∧b2≤191)∧(b0≠224∨160≤b1)∧(b0≠237∨b1<160) then 3
 else if 240≤b0∧b0≤244∧(3<n∧128≤b1∧b1≤191∧128≤b2∧b2≤191∧128≤b3∧b3≤191)∧(b0≠240∨144≤b1)∧(b0≠244∨b1<144) then 4
 else 0
def bt (l:List UInt8) (i:Nat):Nat:=match l[i]? with | some b=>b.toNat | none=>0
theorem bt_lt (l:List UInt8) (i:Nat):bt l i<256:=by
 unfold bt
 split
 · rename_i b _;exact b.toNat_lt
 · omega
def rune (l:List UInt8) (i:Nat):Nat:=runeN (l.length-i) (bt l i) (bt l (i+1)) (bt l (i+2)) (bt l (i+3))
def unit (l:List UInt8) (i:Nat):Nat:=if rune l i=0 then 1 else rune l i
def safe (l:List UInt8) (i:Nat):Bool:=decide (0<rune l i)&&decide (32≤bt l i)&&decide (bt l i≠127)
def hexd (n:Nat):UInt8:=if n<10 then UInt8.ofNat (48+n) else UInt8.ofNat (87+n)
def enc (l:List UInt8) (i:Nat):List UInt8:=
 if bt l i=34∨bt l i=92 then [92,UInt8.ofNat (bt l i)] else if safe l i=true then (l.drop i).take (unit l i) else [92,120,hexd (bt l i / 16),hexd (bt l i % 16)]
def encs (l:List UInt8):Nat→Nat→List UInt8
 | 0,_=>[]
 | f+1,i=>if i<l.length then enc l i++encs l f (i+unit l i) else []
def rest (l:List UInt8) (i:Nat):List UInt8:=encs l (l.length+1) i
def dig (b:Nat):Nat:=if 48≤b∧b≤57 then b-48 else if 97≤b∧b≤102 then b-87 else 16
inductive Esc where
 | ok (b:Nat) (n:Nat)
 | bad (e:Nat)
 deriving DecidableEq
def esc (l:List UInt8) (i:Nat):Esc:=
 if l.length<i+2 then .bad 1
 else if bt l (i+1)=34∨bt l (i+1)=92 then .ok (bt l (i+1)) 2
 else if bt l (i+1)≠120 then .bad 2
 else if l.length<i+3 then .bad 1
 else if dig (bt l (i+2))=16 then .bad 2
 else if l.length<i+4 then .bad 1
 else if dig (bt l (i+3))=16 then .bad 2
 else .ok (16*dig (bt l (i+2))+dig (bt l (i+3))) 4
inductive Got where
 | ok (t:List UInt8) (p:Nat)
 | bad (e:Nat) (p:Nat)
inductive Un where
 | ok (t:List UInt8) (n:Nat)
 | bad (e:Nat) (p:Nat)
def un (l:List UInt8) (i:Nat):Un:=
 if bt l i=92 then (match esc l i with | .ok b n=>.ok [UInt8.ofNat b] n | .bad e=>.bad e (if e=1 then l.length else i))
 else if safe l i=true then .ok ((l.drop i).take (unit l i)) (unit l i)
 else .bad 2 i
def body (l:List UInt8):Nat→List UInt8→Nat→Got
 | 0,_,_=>.bad 1 l.length
 | f +1,out,i=>
   if i<l.length then
    if bt l i=34 then .ok out (i+1)
    else match un l i with
     | .ok t n=>body l f (out++t) (i+n)
     | .bad e p=>.bad e p
   else .bad 1 l.length
def go (l:List UInt8) (out:List UInt8) (i:Nat):Got:=body l (l.length+1) out i
end Qu
end Go.Proofs.YtbpihhelojjedaaDoor
namespace Go.Proofs.YtbpihhelojjedaaDoor
open Go
open Sh Gn
namespace Pl
theorem bind_self {α:Type} {o:Option α}:(o.bind fun x=>some x)=o:=by cases o<;>rfl
theorem ite_and {p q:Prop} [Decidable p] [Decidable q]:(if p then some (decide q) else some false)=some (decide (p∧q)):=by by_cases p<;>by_cases q<;>simp_all
theorem ite_or {p q:Prop} [Decidable p] [Decidable q]:(if p then some true else some (decide q))=some (decide (p∨q)):=by by_cases p<;>by_cases q<;>simp_all
theorem ite_gen {p q r:Prop} [Decidable p] [Decidable q] [Decidable r]:(if p then some (decide q) else some (decide r))=some (decide ((p∧q)∨(¬ p∧r))):=by by_cases p<;>by_cases q<;>by_cases r<;>simp_all
theorem not_dec {p:Prop} [Decidable p]:(!decide p)=decide (¬ p):=by by_cases p<;>simp_all
theorem size_list (s:ByteArray):s.data.toList.length=s.size:=by simp
theorem sin_in {s:ByteArray} {i:Nat} (h:i<s.size):sinB s (i:Int)=true:=by simp [sinB,h]
theorem sa_bt {s:ByteArray} {i:Nat}:sa s (i:Int)=(Qu.bt s.data.toList i:Int):=by
 show ((s.data.getD _ 0).toNat:Int)=_
 unfold Qu.bt
 rw [Int.toNat_natCast,Array.getD_eq_getD_getElem?,Array.getElem?_toList]
 cases s.data[i]?<;>rfl
end Pl
end Go.Proofs.YtbpihhelojjedaaDoor
namespace Go.Proofs.YtbpihhelojjedaaDoor
open Go
open Sh Gn
namespace Pl
theorem setz_p (S:CSet):conj [cm .eql (S.a.toNat:Int) 0,cm .eql (S.b.toNat:Int) 0,cm .eql (S.c.toNat:Int) 0,cm .eql (S.d.toNat:Int) 0]=decide (S=CSet.empty):=by
 have h:∀x:BitVec 64,((x.toNat:Int)=0)=(x=0):=fun x=>propext ⟨fun h=>by
  apply BitVec.eq_of_toNat_eq
  have:x.toNat=0:=by omega
  rw [this];rfl,fun h=>by rw [h];rfl⟩
 rw [cm_eql,cm_eql,cm_eql,cm_eql]
 simp only [h]
 cases S
 rw [Bool.eq_iff_iff]
 simp [conj,CSet.empty]
theorem times_p (lo hi:Int):regex_times_g lo hi=some (Rx.timesB lo hi):=by
 unfold regex_times_g Rx.timesB mx
 simp only [cm_lss,cm_gtr,cm_eql,cm_geq,cm_leq,cond_dec,ite_or,ite_and,Option.bind_some]
 by_cases c:lo<0∨16<lo
 · rw [if_pos c]
   have:lo<0∨lo>16:=c
   congr 1
   rcases this with h | h<;>simp [h]
 · rw [if_neg c]
   have e:∃M:Int,(if (1:Int)>lo then (1:Int) else lo)=M∧(lo=0∧M=1∨lo≠0∧M=lo):=by
    refine ⟨_,rfl,?_⟩
    split<;>omega
   obtain ⟨M,e,hM⟩:=e
   rw [e]
   congr 1
   have c1:¬ lo<0:=fun h=>c (.inl h)
   have c2:¬ lo>16:=fun h=>c (.inr h)
   simp only [c1,c2,decide_false,Bool.false_or]
   by_cases h:(hi>16∨hi< -1)∨hi=0
   · have hd:(decide (hi>16)||decide (hi< -1)||hi==0)=true:=by simpa using h
     rw [hd,if_pos rfl]
     exact decide_eq_false (by omega)
   · have hd:(decide (hi>16)||decide (hi< -1)||hi==0)=false:=by
      rw [Bool.eq_false_iff];intro h';exact h (by simpa using h')
     rw [hd,if_neg (by simp),Bool.eq_iff_iff]
     simp only [Bool.or_eq_true,beq_iff_eq,decide_eq_true_eq]
     omega
theorem at_get {α:Type} {l:List α} {k:Nat} (h:k<l.length):at_ l (k:Int)=some l[k]:=by
 unfold at_
 rw [if_pos (by omega),Int.toNat_natCast,List.getElem?_eq_getElem h]
theorem mkids_p (rec:Node→Option Bool) (n:Node) (hl:n.kids.length≤9223372036854775807) (hr:∀c∈n.kids,rec c=some (Rx.right c)):∀(m k:Nat),k≤n.kids.length→n.kids.length<k+m→regex_Right_l1 rec n m k=some (Rx.topB n.kind n.set n.kids.length n.min n.max&&Rx.rights n.kind (n.kids.drop k)):=by
 intro m
 induction m with
 | zero=>intro k h1 h2;omega
 | succ m ih=>
   intro k h1 h2
   rw [regex_Right_l1]
   simp only [setz_p]
   simp only [cm_lss,cm_eql,cm_neq,cm_gtr,cond_not,cond_dec,ll_eq,setz_p,not_dec,times_p,ite_or,ite_and,ite_gen,Option.bind_some,bind_self]
   by_cases c:k<n.kids.length
   · rw [if_pos (by omega),at_get c,incL (by omega),Option.bind_some,hr _ (List.getElem_mem c),Option.bind_some,ih (k+1) (by omega) (by omega)]
     rw [List.drop_eq_getElem_cons c,Rx.rights]
     generalize n.kids[k]=y
     cases Rx.right y with
     | false=>simp
     | true=>
       have e1:(y.kind==n.kind)=decide (y.kind=n.kind):=Bool.beq_eq_decide_eq _ _
       have e2:(n.kind != 4)= !decide (n.kind=4):=by rw [←Bool.beq_eq_decide_eq];rfl
       rw [e1,e2]
       by_cases g:y.kind=n.kind<;>by_cases g4:n.kind=4<;>simp [g,g4]
   · rw [if_neg (by omega),List.drop_of_length_le (by omega),Rx.rights,Bool.and_true]
     obtain ⟨kind,S,kids,mn,mx⟩:=n
     simp only [Node.kind,Node.set,Node.kids,Node.min,Node.max] at *
     unfold Rx.topB
     generalize kids.length=L
     have q0:((L:Int)=0)=(L=0):=propext (by omega)
     have q1:((L:Int)=1)=(L=1):=propext (by omega)
     have q2:((1:Int)<L)=(1<L):=propext (by omega)
     simp only [q0,q1,q2]
     generalize Rx.timesB mn mx=T
     by_cases k1:kind=1
     · subst k1
       by_cases a1:mn=0<;>by_cases a2:mx=0<;>by_cases a3:L=0<;>simp [a1,a2,a3]
     by_cases k2:kind=2
     · subst k2
       by_cases a0:S=CSet.empty<;>by_cases a1:mn=0<;>by_cases a2:mx=0<;>by_cases a3:L=1<;>simp [a0,a1,a2,a3]
     by_cases k3:kind=3
     · subst k3
       by_cases a0:S=CSet.empty<;>by_cases a1:mn=0<;>by_cases a2:mx=0<;>by_cases a3:1<L<;>simp [a0,a1,a2,a3]
     by_cases k4:kind=4
     · subst k4
       by_cases a0:S=CSet.empty<;>by_cases a3:L=1<;>cases T<;>simp [a0,a3]
     by_cases a0:S=CSet.empty<;>by_cases a1:mn=0<;>by_cases a2:mx=0<;>simp [k1,k2,k3,k4,a0,a1,a2]
theorem kid_size {n c:Node} (h:c∈n.kids):c.size+1≤n.size:=by
 rw [Node.size_eq n]
 have key:∀l:List Node,c∈l→c.size≤Node.sizes l:=by
  intro l
  induction l with
  | nil=>intro h;cases h
  | cons a r ih=>
    intro h
    rw [Node.sizes_cons]
    rcases List.mem_cons.1 h with rfl | h
    · omega
    · have:=ih h;omega
 have:=key _ h
 omega
theorem xright_p:∀(m:Nat) (n:Node),n.size≤m→Lens n→∀N,m+2000≤N→regex_Right_g N n=some (Rx.right n):=by
 intro m
 induction m with
 | zero=>intro n h;have:=n.size_pos;omega
 | succ m ih=>
   intro n h hm N hN
   obtain ⟨N,rfl⟩:∃M,N=M+1:=⟨N-1,by omega⟩
   have hk:=n.kids_le
   have hlen:=Lens_len hm
   rw [regex_Right_g]
   have:=mkids_p (regex_Right_g N) n (by omega) (fun c hc=>ih c (by have:=kid_size hc;omega) (Lens_kid hm hc) N (by omega)) N 0 (by omega) (by omega)
   rw [Rx.right_eq]
   exact this
end Pl
end Go.Proofs.YtbpihhelojjedaaDoor
