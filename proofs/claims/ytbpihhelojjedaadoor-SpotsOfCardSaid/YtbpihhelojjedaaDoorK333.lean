/- Texts that the proof leans on. -/
import Derived.Test.YtbpihhelojjedaaDoorK332
set_option linter.unusedVariables false
set_option linter.unusedSimpArgs false
set_option maxRecDepth 100000
set_option maxHeartbeats 4000000
namespace Go.Proofs.YtbpihhelojjedaaDoor
open Go
open Sh Gn Mx
namespace Pl
mutual
def Few:Node→Prop
 | .mk _ _ kids _ _=>kids.length≤17592186044416∧FewL kids
def FewL:List Node→Prop
 | []=>True
 | n::r=>Few n∧FewL r
end
theorem fewL_iff:∀{l:List Node},FewL l↔∀n∈l,Few n
 | []=>by simp [FewL]
 | a::r=>by rw [FewL,fewL_iff];simp
theorem Few_len {n:Node} (h:Few n):n.kids.length≤17592186044416:=by cases n;rw [Few] at h;exact h.1
theorem Few_kid {n c:Node} (h:Few n) (hc:c∈n.kids):Few c:=by cases n;rw [Few] at h;exact fewL_iff.1 h.2 c hc
theorem rtimes_p (lo hi:Int):r13_times_g lo hi=some (Rx.timesB lo hi):=by
 unfold r13_times_g Rx.timesB
 simp only [cm_lss,cm_gtr,cm_eql,cm_geq,cm_leq,cond_dec,ite_or,ite_and,Option.bind_some]
 by_cases c:lo<0∨16<lo∨16<hi∨hi< -1∨hi=0
 · rw [if_pos c,if_pos (by simpa [_root_.or_assoc] using c)]
 · rw [if_neg c,if_neg (by simpa [_root_.or_assoc] using c)]
   congr 1
   rw [Bool.eq_iff_iff]
   simp
theorem rkids_p (rec:Node→Option Bool) (n:Node) (hl:n.kids.length≤9223372036854775807) (h14:1≤n.kind∧n.kind≤4) (hr:∀c∈n.kids,rec c=some (Rx.right c)):∀(m k:Nat),k≤n.kids.length→n.kids.length<k+m→r13_Right_l1 rec n m k=some (Rx.rights n.kind (n.kids.drop k)):=by
 intro m
 induction m with
 | zero=>intro k h1 h2;omega
 | succ m ih=>
   intro k h1 h2
   rw [r13_Right_l1]
   simp only [cm_lss,cm_eql,cm_neq,cm_gtr,cond_dec,ll_eq]
   by_cases c:k<n.kids.length
   · rw [if_pos (by omega),at_get c,incL (by omega),Option.bind_some,hr _ (List.getElem_mem c),Option.bind_some,ih (k+1) (by omega) (by omega)]
     rw [List.drop_eq_getElem_cons c,Rx.rights]
     generalize n.kids[k]=y
     cases Rx.right y with
     | false=>simp
     | true=>
       by_cases g:y.kind=n.kind<;>by_cases g4:n.kind=4
       · have:¬ n.kind<4:=by omega
         simp [g,g4]
       · have:n.kind<4:=by omega
         simp [g,g4,this]
       · have g':¬ y.kind=4:=by omega
         simp [g,g4,g']
       · simp [g,g4]
   · rw [if_neg (by omega),List.drop_of_length_le (by omega),Rx.rights]
theorem rright13_p:∀(m:Nat) (n:Node),n.size≤m→Lens n→∀N,m+2000≤N→r13_Right_g N n=some (Rx.right n):=by
 intro m
 induction m with
 | zero=>intro n h;have:=n.size_pos;omega
 | succ m ih=>
   intro n h hm N hN
   obtain ⟨N,rfl⟩:∃M,N=M+1:=⟨N-1,by omega⟩
   have hk:=n.kids_le
   have hlen:=Lens_len hm
   rw [r13_Right_g,Rx.right_eq]
   simp only [setz_p]
   simp only [cm_lss,cm_eql,cm_neq,cm_gtr,cond_not,cond_dec,ll_eq,setz_p,not_dec,rtimes_p,ite_or,ite_and,Option.bind_some,bind_self]
   by_cases h14:1≤n.kind∧n.kind≤4
   case neg=>
    rw [if_pos (by omega)]
    unfold Rx.topB
    have a1:¬ n.kind=1:=by omega
    have a2:¬ n.kind=2:=by omega
    have a3:¬ n.kind=3:=by omega
    have a4:¬ n.kind=4:=by omega
    simp [a1,a2,a3,a4]
   rw [if_neg (by omega)]
   have key:=rkids_p (r13_Right_g N) n (by omega) h14 (fun c hc=>ih c (by have:=kid_size hc;omega) (Lens_kid hm hc) N (by omega)) N 0 (by omega) (by omega)
   rw [List.drop_zero] at key
   rw [show ((0:Nat):Int)=0 from rfl] at key
   rw [key]
   generalize Rx.rights n.kind n.kids=U
   obtain ⟨kind,S,kids,mn,mx⟩:=n
   simp only [Node.kind,Node.set,Node.kids,Node.min,Node.max] at *
   unfold Rx.topB
   generalize kids.length=L
   have q0:((L:Int)=0)=(L=0):=propext (by omega)
   have q1:((L:Int)=1)=(L=1):=propext (by omega)
   have q3:((L:Int)<2)=¬(1<L):=propext (by omega)
   simp only [q0,q1,q3]
   generalize Rx.timesB mn mx=T
   have h4:kind=1∨kind=2∨kind=3∨kind=4:=by omega
   rcases h4 with rfl | rfl | rfl | rfl
   · by_cases a1:mn=0<;>by_cases a2:mx=0<;>by_cases a3:L=0<;>simp [a1,a2,a3]
   · by_cases a0:S=CSet.empty<;>by_cases a1:mn=0<;>by_cases a2:mx=0<;>by_cases a3:L=1<;>simp [a0,a1,a2,a3]
   · by_cases a0:S=CSet.empty<;>by_cases a1:mn=0<;>by_cases a2:mx=0<;>by_cases a3:1<L<;>simp [a0,a1,a2,a3]
   · by_cases a0:S=CSet.empty<;>by_cases a3:L=1<;>cases T<;>simp [a0,a3]
theorem cap_last (x:Nat) (hx:x≤9223372036854775807):cond (cm .gtr (x:Int) 513) (some 513) (some (x:Int))=some ((min x 513:Nat):Int):=by
 rw [cm_gtr,cond_dec]
 split
 · congr 1;omega
 · congr 1;omega
theorem rcount_p:∀(m:Nat) (n:Node),n.size≤m→Few n→Rx.right n=true→∀N,m+2≤N→r16_count_g N n=some ((min (cnt n) 513:Nat):Int):=by
 intro m
 induction m with
 | zero=>intro n h;have:=n.size_pos;omega
 | succ m ih=>
   intro n h hm hri N hN
   obtain ⟨N,rfl⟩:∃K,N=K+1:=⟨N-1,by omega⟩
   have hkl:=n.kids_le
   rw [r16_count_g,cnt_eq]
   simp only [cm_eql,cond_dec]
   by_cases k1:n.kind=1
   · rw [if_pos k1,if_pos k1];rfl
   rw [if_neg k1,if_neg k1]
   have hlen:=Few_len hm
   have hr:∀c∈n.kids,r16_count_g N c=some ((min (cnt c) 513:Nat):Int):=fun c hc=>ih c (by have:=kid_le hc;omega) (Few_kid hm hc) (kids_right hri c hc) N (by omega)
   have key :∀(f i S T:Nat),i≤n.kids.length→n.kids.length<i+f→T≤513*i→min T 513=min S 513→r16_count_l1 (r16_count_g N) n f (T:Int) i=some ((min (if n.kind=4 then (if n.max=-1 then (S+cnts (n.kids.drop i))*(n.min.toNat+1) else (S+cnts (n.kids.drop i))*n.max.toNat) else S+cnts (n.kids.drop i)) 513:Nat):Int):=by
    intro f
    induction f with
    | zero=>intro i S T h1 h2;omega
    | succ f ihf=>
      intro i S T h1 h2 hT hS
      rw [r16_count_l1]
      by_cases c:i<n.kids.length
      · have c':cm .lss (i:Int) (ll (rw _ nodeRow n.kids))=true:=by rw [cm_lss,ll_eq];exact decide_eq_true (by omega)
        have e1:ar .add .i64 (T:Int) ((min (cnt n.kids[i]) 513:Nat):Int)=((T+min (cnt n.kids[i]) 513:Nat):Int):=by
         rw [ar_add (by omega) (by omega)];omega
        rw [c',_root_.cond_true,at_in c,Option.bind_some,hr _ (List.getElem_mem c),Option.bind_some,e1,incL (by omega),ihf (i+1) (S+cnt n.kids[i]) _ (by omega) (by omega) (by omega) (by omega)]
        rw [List.drop_eq_getElem_cons c,cnts_cons,Nat.add_assoc]
      · have c':cm .lss (i:Int) (ll (rw _ nodeRow n.kids))=false:=by rw [cm_lss,ll_eq];exact decide_eq_false (by omega)
        rw [c',_root_.cond_false,List.drop_of_length_le (by omega),cnts_nil,Nat.add_zero]
        simp only [cm_eql,cond_dec]
        by_cases k4:n.kind=4
        · rw [if_pos k4,if_pos k4,if_pos k4,Option.bind_some,cond_dec]
          obtain ⟨c0,hc0,lo,e0,e1,e2⟩:=rep_right hri k4
          have hT2:T≤513:=by
           have:n.kids.length=1:=by rw [hc0];rfl
           omega
          obtain rfl:T=min S 513:=by rw [←hS,Nat.min_eq_left hT2]
          rcases e2 with e2 | ⟨hi,e2,e3,e4,e5⟩
          · rw [if_pos e2,if_pos e2,e0,ar_add (by omega) (by omega),Int.toNat_natCast]
            have h1:min S 513*(lo+1)≤513*17:=Nat.mul_le_mul (by omega) (by omega)
            have e:((min S 513:Nat):Int)*((lo:Int)+1)=((min S 513*(lo+1):Nat):Int):=by rw [Int.natCast_mul];rfl
            rw [ar_mul (by rw [e];omega) (by rw [e];omega),e,Option.bind_some,cap_last _ (by omega),cap_mul]
          · have hne:¬ n.max=-1:=by omega
            rw [if_neg hne,if_neg hne,e2,Int.toNat_natCast]
            have h1:min S 513*hi≤513*17:=Nat.mul_le_mul (by omega) (by omega)
            have e:((min S 513:Nat):Int)*(hi:Int)=((min S 513*hi:Nat):Int):=by rw [Int.natCast_mul]
            rw [ar_mul (by rw [e];omega) (by rw [e];omega),e,Option.bind_some,Option.bind_some,cap_last _ (by omega),cap_mul]
        · rw [if_neg k4,if_neg k4,if_neg k4]
          simp only [Option.bind_some,_root_.cond_false]
          rw [cap_last _ (by omega),hS]
   have:=key N 0 0 0 (by omega) (by omega) (by omega) rfl
   rw [List.drop_zero,Nat.zero_add] at this
   exact this
theorem rwrite_p:∀(m:Nat) (n:Node),n.size≤m→Lens n→Few n→Rx.right n=true→∀N M,2100+30*m≤N→2100+30*m≤M→WEq (spots_writer_write_g N) (r16_write_g M) n:=by
 intro m
 induction m with
 | zero=>intro n h;have:=n.size_pos;omega
 | succ m ih=>
   intro n h hm hf hri N M hN hM s b h1 h2 h3 p s' hw fi la no
   obtain ⟨N,rfl⟩:∃K,N=K+1:=⟨N-1,by omega⟩
   obtain ⟨M,rfl⟩:∃K,M=K+1:=⟨M-1,by omega⟩
   have hkl:=n.kids_le
   have hrec:∀c∈n.kids,∀K,2100+30*m≤K→WOk (spots_writer_write_g K) c:=fun c hc=>write_p m c (by have:=kid_le hc;omega) (Lens_kid hm hc) (kids_right hri c hc)
   have hreq:∀c∈n.kids,∀K K',2100+30*m≤K→2100+30*m≤K'→WEq (spots_writer_write_g K) (r16_write_g K') c:=fun c hc=>ih c (by have:=kid_le hc;omega) (Lens_kid hm hc) (Few_kid hf hc) (kids_right hri c hc)
   have hlen:=Lens_len hm
   rw [spots_writer_write_g] at hw
   rw [r16_write_g]
   simp only [cm_eql,cm_neq,cond_dec] at hw ⊢
   have h2l:=h2.1
   rcases top_kind hri with k | k | k | k
   · rw [if_pos k] at hw ⊢
     rw [app_eq (show s.out.Sets.length+[n.set].length≤1000000000 by simp;omega),app_eq (show s.out.Next.length+([[]]:List (List Int)).length≤1000000000 by simp;omega)] at hw
     simp only [Option.bind_some] at hw
     cases hw
     dsimp only
     rw [app_eq (show ([]:List CSet).length+s.out.Sets.length≤1000000000 by simp;omega),Option.bind_some,app_eq (show (([]:List CSet)++s.out.Sets).length+[n.set].length≤1000000000 by simp;omega),Option.bind_some,app_eq (show ([]:List (List Int)).length+s.out.Next.length≤1000000000 by simp;omega),Option.bind_some,app_eq (show (([]:List (List Int))++s.out.Next).length+([[]]:List (List Int)).length≤1000000000 by simp;omega),Option.bind_some,List.nil_append,List.nil_append]
   · rw [if_neg (by omega),if_neg (by omega),if_neg (by omega)] at hw
     rw [if_neg (by omega),if_neg (by omega),Option.bind_some,_root_.cond_false,if_neg (by omega)]
     have hc:cnt n=cnts n.kids:=by rw [cnt_eq,if_neg (by omega),if_neg (by omega)]
     rw [hc] at h3
     have t0:(!decide (n.kind=3))=true:=by simp;omega
     rw [t0]
     exact rcat_l (N:=N) (M:=M) (n:=n) (rec:=spots_writer_write_g N) (recR:=r16_write_g M) (by omega) (by omega) (by omega) k (fun c hc=>hrec c hc N (by omega)) (fun c hc=>hreq c hc N M (by omega) (by omega)) s.out.None s.out.First s.out.Last M N 0 s.out.Sets s.out.Next ⟨[],[],true⟩ b (by omega) (by omega) h1 h2 ⟨rg_nil,rg_nil⟩ (by rw [List.drop_zero];exact h3) p s' hw
   · rw [if_neg (by omega),if_pos k] at hw
     rw [if_neg (by omega),if_neg (by omega),Option.bind_some,_root_.cond_false,if_neg (by omega)]
     have hc:cnt n=cnts n.kids:=by rw [cnt_eq,if_neg (by omega),if_neg (by omega)]
     rw [hc] at h3
     have t0:(!decide (n.kind=3))=false:=by simp;omega
     rw [t0]
     exact ralt_l (N:=N) (M:=M) (n:=n) (rec:=spots_writer_write_g N) (recR:=r16_write_g M) (by omega) (by omega) (by omega) (by omega) (fun c hc=>hrec c hc N (by omega)) (fun c hc=>hreq c hc N M (by omega) (by omega)) s.out.None s.out.First s.out.Last M N 0 s.out.Sets s.out.Next ⟨[],[],false⟩ b (by omega) (by omega) h1 h2 ⟨rg_nil,rg_nil⟩ (by rw [List.drop_zero];exact h3) p s' hw
   · rw [if_neg (by omega),if_neg (by omega),if_pos k] at hw
     rw [if_neg (by omega),if_pos k]
     obtain ⟨c,hc,lo,e0,e1,e2⟩:=rep_right hri k
     obtain ⟨N,rfl⟩:∃K,N=K+1:=⟨N-1,by omega⟩
     have hcm:c∈n.kids:=by rw [hc];simp
     have hcs:=kid_le hcm
     have a0:at_ n.kids 0=some c:=by rw [hc];rfl
     rw [spots_writer_often_g] at hw
     dsimp only at hw
     rw [a0,Option.bind_some,count_p m c (by omega) (Lens_kid hm hcm) (kids_right hri c hcm) N (by omega),Option.bind_some,cm_eql,cond_dec] at hw
     rw [a0,Option.bind_some,rcount_p m c (by omega) (Few_kid hf hcm) (kids_right hri c hcm) M (by omega),Option.bind_some,Option.bind_some,cond_dec]
     have hcn:cnt n=if n.max=-1 then cnt c*(n.min.toNat+1) else cnt c*n.max.toNat:=by rw [cnt_eq,if_neg (by omega),if_pos k,hc,cnts_cons,cnts_nil,Nat.add_zero]
     have t0:(!decide (n.kind=3))=true:=by simp;omega
     by_cases z:cnt c=0
     · rw [z,if_pos (show ((min 0 513:Nat):Int)=0 from rfl)] at hw ⊢
       cases hw
       rw [t0]
     · rw [if_neg (by omega)] at hw ⊢
       rw [if_pos k,t0]
       have tot:cnt c*(lo-0)+(if n.max=-1 then cnt c else cnt c*(n.max.toNat-lo))=cnt n:=by
        rw [hcn,Nat.sub_zero,e0,Int.toNat_natCast]
        split
        · rw [Nat.mul_add,Nat.mul_one]
        · rename_i hne
          rcases e2 with e2 | ⟨hi,e2,e3,-⟩
          · exact absurd e2 hne
          · rw [e2,Int.toNat_natCast,←Nat.mul_add,show lo+(hi-lo)=hi by omega]
       generalize hX:spots_writer_often_l1 (spots_writer_write_g N) (spots_writer_often_1_g N) N n c N 0 s.out.None s.out.First s.out.Last s.out.Sets s.out.Next [] [] true=X at hw
       cases X with
       | none=>cases hw
       | some x=>
         obtain ⟨p0,s0⟩:=x
         cases hw
         exact roften_l (c:=c) (p1:=n) (B:=2100+30*m) (K:=N) (M:=M) (lo:=lo) (by omega) (by omega) (by omega) (hrec c hcm) (hreq c hcm) a0 e0 e1 (e2.imp id fun ⟨hi,q1,q2,q3,_⟩=>⟨hi,q1,q2,q3⟩) s.out.None s.out.First s.out.Last M N 0 s.out.Sets s.out.Next ⟨[],[],true⟩ b (by omega) (by omega) h1 h2 ⟨rg_nil,rg_nil⟩ (by omega) _ _ hX
theorem same_l {l:List Int} (hl:l.length≤1000000):∀(m i:Nat),i≤l.length→l.length<i+m→r16_same_l1 l l m i=some true:=by
 intro m
 induction m with
 | zero=>intro i h1 h2;omega
 | succ m ih=>
   intro i h1 h2
   rw [r16_same_l1]
   by_cases c:i<l.length
   · have c':cm .lss (i:Int) (ll (rw _ (cI .i64) l))=true:=by rw [cm_lss,ll_eq];exact decide_eq_true (by omega)
     rw [c',_root_.cond_true,at_in c,Option.bind_some,Option.bind_some,cm_neq]
     simp only [decide_true,Bool.not_true,_root_.cond_false]
     rw [inc1 (by omega)]
     exact ih (i+1) (by omega) (by omega)
   · have c':cm .lss (i:Int) (ll (rw _ (cI .i64) l))=false:=by rw [cm_lss,ll_eq];exact decide_eq_false (by omega)
     rw [c',_root_.cond_false]
theorem same_p {l:List Int} {N:Nat} (hl:l.length≤1000000) (hN:l.length<N):r16_same_g N l l=some true:=by
 unfold r16_same_g
 rw [cm_neq]
 simp only [decide_true,Bool.not_true,_root_.cond_false]
 exact same_l hl N 0 (by omega) (by omega)
theorem Same_l2 {p:GSpots} {N:Nat} (hl:p.Next.length≤1000000) (hn:∀l∈p.Next,l.length≤1000000∧l.length<N):∀(m i:Nat),i≤p.Next.length→p.Next.length<i+m→r16_Same_l2 N p p m i=some true:=by
 intro m
 induction m with
 | zero=>intro i h1 h2;omega
 | succ m ih=>
   intro i h1 h2
   rw [r16_Same_l2]
   by_cases c:i<p.Next.length
   · have c':cm .lss (i:Int) (ll (rw _ (cLs (cI .i64)) p.Next))=true:=by rw [cm_lss,ll_eq];exact decide_eq_true (by omega)
     have:=hn _ (List.getElem_mem c)
     rw [c',_root_.cond_true,at_in c,Option.bind_some,Option.bind_some,same_p this.1 this.2,Option.bind_some]
     simp only [Bool.not_true,_root_.cond_false]
     rw [inc1 (by omega)]
     exact ih (i+1) (by omega) (by omega)
   · have c':cm .lss (i:Int) (ll (rw _ (cLs (cI .i64)) p.Next))=false:=by rw [cm_lss,ll_eq];exact decide_eq_false (by omega)
     rw [c',_root_.cond_false]
theorem Same_l1 {p:GSpots} {N:Nat} (hs:p.Sets.length≤1000000) (hl:p.Next.length≤1000000) (hlN:p.Next.length<N) (hn:∀l∈p.Next,l.length≤1000000∧l.length<N):∀(m i:Nat),i≤p.Sets.length→p.Sets.length<i+m→r16_Same_l1 N p p m i=some true:=by
 intro m
 induction m with
 | zero=>intro i h1 h2;omega
 | succ m ih=>
   intro i h1 h2
   rw [r16_Same_l1]
   by_cases c:i<p.Sets.length
   · have c':cm .lss (i:Int) (ll (rw _ cSet p.Sets))=true:=by rw [cm_lss,ll_eq];exact decide_eq_true (by omega)
     rw [c',_root_.cond_true,at_in c,Option.bind_some,Option.bind_some]
     simp only [cm_eql,decide_true]
     rw [inc1 (by omega)]
     exact ih (i+1) (by omega) (by omega)
   · have c':cm .lss (i:Int) (ll (rw _ cSet p.Sets))=false:=by rw [cm_lss,ll_eq];exact decide_eq_false (by omega)
     rw [c',_root_.cond_false]
     exact Same_l2 hl hn N 0 (by omega) (by omega)
theorem Same_p {p:GSpots} {N:Nat} (hs:p.Sets.length≤1000000) (hsN:p.Sets.length<N) (hl:p.Next.length≤1000000) (hlN:p.Next.length<N) (hn:∀l∈p.Next,l.length≤1000000∧l.length<N) (hf:p.First.length≤1000000∧p.First.length<N) (hla:p.Last.length≤1000000∧p.Last.length<N):r16_Same_g N p p=some true:=by
 unfold r16_Same_g
 rw [same_p hf.1 hf.2,same_p hla.1 hla.2]
 have e:conj [p.None==p.None]=true:=by simp [conj]
 rw [e]
 simp only [cm_neq,decide_true,Bool.not_true,_root_.cond_false,Option.bind_some]
 exact Same_l1 hs hl hlN hn N 0 (by omega) (by omega)
theorem spotsof_p {n:Node} (hz:Lens n) (hf:Few n):l16_SpotsOf_g (30*n.size+40000) n=some true:=by
 obtain ⟨g,hg⟩:=great_p (N:=30*n.size+40000) hz (by omega)
 have hR:=xright_p n.size n (Nat.le_refl _) hz (30*n.size+40000) (by omega)
 have hR2:=rright13_p n.size n (Nat.le_refl _) hz (30*n.size+40000) (by omega)
 generalize hN:30*n.size+40000=N at *
 have hC:spots_Count_g N n=some (if Rx.right n=true then ((min (cnt n) 513:Nat):Int) else 0):=by
  unfold spots_Count_g
  rw [hR,Option.bind_some]
  cases hri:Rx.right n with
  | false=>simp
  | true=>simp [count_p n.size n (Nat.le_refl _) hz hri N (by omega)]
 have hC2:r16_Count_g N n=some (if Rx.right n=true then ((min (cnt n) 513:Nat):Int) else 0):=by
  unfold r16_Count_g
  rw [hR2,Option.bind_some]
  cases hri:Rx.right n with
  | false=>simp
  | true=>simp [rcount_p n.size n (Nat.le_refl _) hf hri N (by omega)]
 obtain ⟨C,hCv⟩:∃C:Int,C=(if Rx.right n=true then ((min (cnt n) 513:Nat):Int) else 0):=⟨_,rfl⟩
 rw [←hCv] at hC hC2
 have fin:∀a b:GSpots × Int,spots_Of_g N n=some a→r16_Of_g N n=some b→a=b→r16_Same_g N a.1 a.1=some true→l16_SpotsOf_g N n=some true:=fun a b ha hb e hs=>by
  subst e
  unfold l16_SpotsOf_g
  rw [hg,hC,hC2,ha,hb]
  simp only [Option.bind_some,hs,cm_eql,decide_true,_root_.cond_true,works16_g,cm_gtr,cm_lss,cond_dec]
  cases g with
  | true=>simp
  | false=>
    by_cases c1:40<C
    · by_cases c2:C<513<;>simp [c1,c2]
    · simp [c1]
 by_cases hri:Rx.right n=true
 · rw [hri] at hR hR2
   by_cases h1:512<cnt n
   · refine fin (⟨[],false,[],[],[]⟩,16) (⟨[],false,[],[],[]⟩,16) ?_ ?_ rfl (Same_p (by simp) (by simp;omega) (by simp) (by simp;omega) (fun l hl=>by cases hl) ⟨by simp,by simp;omega⟩ ⟨by simp,by simp;omega⟩)
     · unfold spots_Of_g
       rw [hR,Option.bind_some,count_p n.size n (Nat.le_refl _) hz hri N (by omega),Option.bind_some,cm_gtr,cond_dec,if_pos (by omega)]
       rfl
     · unfold r16_Of_g
       rw [hR2,Option.bind_some,rcount_p n.size n (Nat.le_refl _) hf hri N (by omega),Option.bind_some,cm_gtr,cond_dec,if_pos (by omega)]
       rfl
   · by_cases h2:cnt n≤40
     · obtain ⟨q,X,nx,r1,r2,-⟩:=write_p n.size n (Nat.le_refl _) hz hri N (by omega) ⟨⟨[],false,[],[],[]⟩⟩ 0 rfl rfl (by omega)
       rw [Nat.zero_add] at r2
       have r3:=rwrite_p n.size n (Nat.le_refl _) hz hf hri N N (by omega) (by omega) ⟨⟨[],false,[],[],[]⟩⟩ 0 rfl ⟨rfl,fun k l _ h=>by simp at h⟩ (by omega) _ _ r1 [] [] false
       have l1:=rg_len r2.pr.first
       have l2:=rg_len r2.pr.last
       have l3:(([]:List CSet)++X).length=cnt n:=r2.len
       have l4:nx.length=cnt n:=r2.sn.1
       refine fin (⟨[]++X,q.none,q.first,q.last,nx⟩,0) (⟨[]++X,q.none,q.first,q.last,nx⟩,0) ?_ ?_ rfl (Same_p (by dsimp only;omega) (by dsimp only;omega) (by dsimp only;omega) (by dsimp only;omega) (fun l hl=>?_) ⟨by dsimp only;omega,by dsimp only;omega⟩ ⟨by dsimp only;omega,by dsimp only;omega⟩)
       · unfold spots_Of_g
         rw [hR,Option.bind_some,count_p n.size n (Nat.le_refl _) hz hri N (by omega),Option.bind_some,cm_gtr,cond_dec,if_neg (by omega),r1]
         simp only [Bool.not_true,_root_.cond_false,Option.bind_some,cloneI_p (show q.first.length≤1000000 by omega),cloneI_p (show q.last.length≤1000000 by omega)]
       · unfold r16_Of_g
         dsimp only at r3
         rw [hR2,Option.bind_some,rcount_p n.size n (Nat.le_refl _) hf hri N (by omega),Option.bind_some,cm_gtr,cond_dec,if_neg (by omega),r3]
         rfl
       · obtain ⟨k,hk,rfl⟩:=List.mem_iff_getElem.1 hl
         have:=rg_len (r2.sn.2 k _ (Nat.zero_le _) (List.getElem?_eq_getElem hk))
         dsimp only at this ⊢
         exact ⟨by omega,by omega⟩
     · unfold l16_SpotsOf_g
       rw [hg,hC,hC2]
       rw [if_pos hri] at hCv
       simp only [Option.bind_some,cm_eql,decide_true,_root_.cond_true,works16_g,cm_gtr,cm_lss,cond_dec]
       have c1:40<C:=by omega
       have c2:C<513:=by omega
       cases g<;>simp [c1,c2]
 · have hri':Rx.right n=false:=by simpa using hri
   rw [hri'] at hR hR2
   refine fin (⟨[],false,[],[],[]⟩,7) (⟨[],false,[],[],[]⟩,7) ?_ ?_ rfl (Same_p (by simp) (by simp;omega) (by simp) (by simp;omega) (fun l hl=>by cases hl) ⟨by simp,by simp;omega⟩ ⟨by simp,by simp;omega⟩)
   · exact of_bad hR
   · unfold r16_Of_g
     rw [hR2]
     rfl
end Pl
end Go.Proofs.YtbpihhelojjedaaDoor
