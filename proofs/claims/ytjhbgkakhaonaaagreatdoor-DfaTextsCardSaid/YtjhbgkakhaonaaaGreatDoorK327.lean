/- Texts that the proof leans on. -/
import Derived.Test.YtjhbgkakhaonaaaGreatDoorK326
import Derived.Lib.DecodeN
set_option linter.unusedVariables false
set_option linter.unusedSimpArgs false
set_option maxRecDepth 100000
set_option maxHeartbeats 4000000
namespace Go.Proofs.YtjhbgkakhaonaaaGreatDoor
open Go
open Sh Gn Mx
namespace Pl
theorem lc_iff {A A' B B':Lg} (hA:∀w,A w↔A' w) (hB:∀w,B w↔B' w) (w:List UInt8):lcat A B w↔lcat A' B' w:=by
 constructor<;>(rintro ⟨u,v,h,h1,h2⟩;refine ⟨u,v,h,?_,?_⟩)
 · exact (hA u).1 h1
 · exact (hB v).1 h2
 · exact (hA u).2 h1
 · exact (hB v).2 h2
theorem lc_assoc (A B C:Lg) (w:List UInt8):lcat (lcat A B) C w↔lcat A (lcat B C) w:=by
 constructor
 · rintro ⟨_,v,rfl,⟨x,y,rfl,h1,h2⟩,h3⟩
   exact ⟨x,y++v,by rw [List.append_assoc],h1,y,v,rfl,h2,h3⟩
 · rintro ⟨x,_,rfl,h1,y,v,rfl,h2,h3⟩
   exact ⟨x++y,v,by rw [List.append_assoc],⟨x,y,rfl,h1,h2⟩,h3⟩
theorem lc_nil (A:Lg) (w:List UInt8):lcat lnil A w↔A w:=by
 constructor
 · rintro ⟨u,v,rfl,h1,h2⟩
   have:u=[]:=h1
   subst this;simpa using h2
 · intro h;exact ⟨[],w,rfl,rfl,h⟩
theorem lc_nil_r (A:Lg) (w:List UInt8):lcat A lnil w↔A w:=by
 constructor
 · rintro ⟨u,v,rfl,h1,h2⟩
   have:v=[]:=h2
   subst this;simpa using h1
 · intro h;exact ⟨w,[],(List.append_nil w).symm,h,rfl⟩
theorem lp_add (A:Lg) (b:Nat):∀(a:Nat) (w:List UInt8),lcat (lpow A a) (lpow A b) w↔lpow A (a+b) w
 | 0,w=>by rw [Nat.zero_add];exact lc_nil _ w
 | a+1,w=>by
   rw [show a+1+b=(a+b)+1 by omega]
   show lcat (lcat A (lpow A a)) (lpow A b) w↔lcat A (lpow A (a+b)) w
   rw [lc_assoc]
   exact lc_iff (fun _=>Iff.rfl) (lp_add A b a) w
theorem lp_one (A:Lg) (w:List UInt8):lpow A 1 w↔A w:=lc_nil_r A w
theorem lp_nil {A:Lg} (h:∀w,A w↔w=[]):∀(k:Nat) (w:List UInt8),lpow A k w↔w=[]
 | 0,w=>Iff.rfl
 | k+1,w=>by
   show lcat A (lpow A k) w↔_
   rw [lc_iff (A':=lnil) (B':=lnil) h (lp_nil h k)]
   exact lc_nil lnil w
mutual
def cnt:Node→Nat
 | .mk k S kids mn mx=>if k=1 then 1 else if k=4 then (if mx=-1 then cnts kids*(mn.toNat+1) else cnts kids*mx.toNat) else cnts kids
def cnts:List Node→Nat
 | []=>0
 | n::r=>cnt n+cnts r
end
theorem cnt_eq (n:Node):cnt n=if n.kind=1 then 1 else if n.kind=4 then (if n.max=-1 then cnts n.kids*(n.min.toNat+1) else cnts n.kids*n.max.toNat) else cnts n.kids:=by cases n;rw [cnt]<;>rfl
theorem cnts_cons (n:Node) (r:List Node):cnts (n::r)=cnt n+cnts r:=by rw [cnts]
theorem cnts_nil:cnts []=0:=by rw [cnts]
theorem incL {i:Nat} (h:i<9223372036854775807):ar .add .i64 (i:Int) 1=((i+1:Nat):Int):=by rw [ar_add (by omega) (by omega)];omega
def WOk (rec:Node→Gspots_writer→Option (Gspots_part × Gspots_writer)) (n:Node):Prop:=∀(s:Gspots_writer) (b:Nat),s.out.Sets.length=b→s.out.Next.length=b→b+cnt n≤400→
 ∃p X nx',rec n s=some (p,⟨⟨s.out.Sets++X,s.out.None,s.out.First,s.out.Last,nx'⟩⟩)∧Wr b (b+cnt n) (s.out.Sets++X) nx' p (lang n)∧∀k,k<b→nx'[k]?=s.out.Next[k]?
variable {N:Nat} {n:Node} {rec:Node→Gspots_writer→Option (Gspots_part × Gspots_writer)}
theorem sets_app {sets X:List CSet} {e:Nat} (h:sets.length=e) (k:Nat) (hk:k<e):(sets++X)[k]?=sets[k]?:=List.getElem?_append_left (by omega)
theorem wcat_l (hN:900≤N) (hl:n.kids.length≤9223372036854775807) (hr:∀c∈n.kids,WOk rec c) (no:Bool) (fi la:List Int) {b:Nat}:∀(m i:Nat) (sets:List CSet) (nx:List (List Int)) (x:Gspots_part) (A:Lg) (e:Nat),i≤n.kids.length→n.kids.length<i+m→Wr b e sets nx x A→e+cnts (n.kids.drop i)≤400→
 ∃p X nx',spots_writer_write_l2 rec N n m i no fi la sets nx x.first x.last x.none=some (p,⟨⟨sets++X,no,fi,la,nx'⟩⟩)∧Wr b (e+cnts (n.kids.drop i)) (sets++X) nx' p (lcat A (langCat (n.kids.drop i)))∧∀k,k<b→nx'[k]?=nx[k]?:=by
 intro m
 induction m with
 | zero=>intro i sets nx x A e h1 h2;omega
 | succ m ih=>
   intro i sets nx x A e h1 h2 hx he
   rw [spots_writer_write_l2]
   by_cases c:i<n.kids.length
   · have c':cm .lss (i:Int) (ll (rw _ nodeRow n.kids))=true:=by rw [cm_lss,ll_eq];exact decide_eq_true (by omega)
     rw [List.drop_eq_getElem_cons c] at he ⊢
     rw [cnts_cons] at he ⊢
     obtain ⟨q,X1,nx1,r1,r2,r3⟩:=hr _ (List.getElem_mem c) ⟨⟨sets,no,fi,la,nx⟩⟩ e hx.len hx.sn.1 (by omega)
     obtain ⟨p,nx2,s1,s2,s3⟩:=Wr.behind (N:=N) (s:=⟨⟨sets++X1,no,fi,la,nx1⟩⟩) (by omega) hN hx r2 (sets_app hx.len) r3
     obtain ⟨p',X2,nx3,t1,t2,t3⟩:=ih (i+1) _ _ p _ _ (by omega) (by omega) s2 (by omega)
     rw [c',_root_.cond_true,at_in c]
     simp only [Option.bind_some,r1,s1,incL (show i<9223372036854775807 by omega)]
     refine ⟨p',X1++X2,nx3,by rw [t1,List.append_assoc],?_,fun k hk=>by rw [t3 k hk,s3 k hk];exact r3 k (by have:=hx.le;omega)⟩
     rw [←List.append_assoc,show e+(cnt n.kids[i]+cnts (n.kids.drop (i+1)))=e+cnt n.kids[i]+cnts (n.kids.drop (i+1)) by omega]
     refine t2.of_iff fun w=>?_
     rw [lc_assoc]
     exact lc_iff (fun _=>Iff.rfl) (fun w=>(langCat_cons _ _ w).symm) w
   · have c':cm .lss (i:Int) (ll (rw _ nodeRow n.kids))=false:=by rw [cm_lss,ll_eq];exact decide_eq_false (by omega)
     rw [c',_root_.cond_false,List.drop_of_length_le (by omega),cnts_nil]
     refine ⟨x,[],nx,by rw [List.append_nil],?_,fun _ _=>rfl⟩
     rw [List.append_nil]
     refine hx.of_iff fun w=>?_
     rw [langCat]
     exact (lc_nil_r A w).symm
theorem walt_l (hN:900≤N) (hl:n.kids.length≤9223372036854775807) (hr:∀c∈n.kids,WOk rec c) (no:Bool) (fi la:List Int) {b:Nat}:∀(m i:Nat) (sets:List CSet) (nx:List (List Int)) (x:Gspots_part) (A:Lg) (e:Nat),i≤n.kids.length→n.kids.length<i+m→Wr b e sets nx x A→e+cnts (n.kids.drop i)≤400→
 ∃p X nx',spots_writer_write_l1 rec N n m i no fi la sets nx x.first x.last x.none=some (p,⟨⟨sets++X,no,fi,la,nx'⟩⟩)∧Wr b (e+cnts (n.kids.drop i)) (sets++X) nx' p (fun w=>A w∨langAlt (n.kids.drop i) w)∧∀k,k<b→nx'[k]?=nx[k]?:=by
 intro m
 induction m with
 | zero=>intro i sets nx x A e h1 h2;omega
 | succ m ih=>
   intro i sets nx x A e h1 h2 hx he
   rw [spots_writer_write_l1]
   by_cases c:i<n.kids.length
   · have c':cm .lss (i:Int) (ll (rw _ nodeRow n.kids))=true:=by rw [cm_lss,ll_eq];exact decide_eq_true (by omega)
     rw [List.drop_eq_getElem_cons c] at he ⊢
     rw [cnts_cons] at he ⊢
     obtain ⟨q,X1,nx1,r1,r2,r3⟩:=hr _ (List.getElem_mem c) ⟨⟨sets,no,fi,la,nx⟩⟩ e hx.len hx.sn.1 (by omega)
     obtain ⟨f,l,s1,s2,s3⟩:=Wr.alt (N:=N) (by omega) hN hx r2 (sets_app hx.len) r3
     have fin:∀no2,(no2=true↔x.none=true∨q.none=true)→∃p X nx',spots_writer_write_l1 rec N n m (ar .add .i64 (i:Int) 1) no fi la (sets++X1) nx1 f l no2=some (p,⟨⟨sets++X,no,fi,la,nx'⟩⟩)∧Wr b (e+(cnt n.kids[i]+cnts (n.kids.drop (i+1)))) (sets++X) nx' p (fun w=>A w∨langAlt (n.kids[i]::n.kids.drop (i+1)) w)∧∀k,k<b→nx'[k]?=nx[k]?:=fun no2 hno=>by
      obtain ⟨p',X2,nx3,t1,t2,t3⟩:=ih (i+1) _ _ ⟨f,l,no2⟩ _ _ (by omega) (by omega) (s3 no2 hno) (by omega)
      rw [incL (show i<9223372036854775807 by omega)]
      refine ⟨p',X1++X2,nx3,by rw [t1,List.append_assoc],?_,fun k hk=>by rw [t3 k hk];exact r3 k (by have:=hx.le;omega)⟩
      rw [←List.append_assoc,show e+(cnt n.kids[i]+cnts (n.kids.drop (i+1)))=e+cnt n.kids[i]+cnts (n.kids.drop (i+1)) by omega]
      exact t2.of_iff fun w=>by rw [langAlt_cons,_root_.or_assoc]
     rw [c',_root_.cond_true,at_in c]
     simp only [Option.bind_some,r1,s1,s2]
     cases hb:x.none with
     | true=>simp only [_root_.cond_true];exact fin true (by rw [hb];simp)
     | false=>simp only [_root_.cond_false];exact fin q.none (by rw [hb];simp)
   · have c':cm .lss (i:Int) (ll (rw _ nodeRow n.kids))=false:=by rw [cm_lss,ll_eq];exact decide_eq_false (by omega)
     rw [c',_root_.cond_false,List.drop_of_length_le (by omega),cnts_nil]
     refine ⟨x,[],nx,by rw [List.append_nil],?_,fun _ _=>rfl⟩
     rw [List.append_nil]
     refine hx.of_iff fun w=>?_
     rw [langAlt]
     simp
theorem rest_p {c:Node} {M:Nat} (hM:900≤M) (hc:∀N,M≤N→WOk (spots_writer_write_g N) c):∀(left N:Nat),left≤1000→M+left+1≤N→∀(s:Gspots_writer) (b:Nat),s.out.Sets.length=b→s.out.Next.length=b→b+cnt c*left≤400→
 ∃p X nx',spots_writer_often_1_g N left s c=some (p,⟨⟨s.out.Sets++X,s.out.None,s.out.First,s.out.Last,nx'⟩⟩)∧Wr b (b+cnt c*left) (s.out.Sets++X) nx' p (fun w=>∃k,k≤left∧lpow (lang c) k w)∧∀k,k<b→nx'[k]?=s.out.Next[k]?:=by
 intro left
 induction left with
 | zero=>
   intro N hle hN s b h1 h2 h3
   obtain ⟨N,rfl⟩:∃K,N=K+1:=⟨N-1,by omega⟩
   rw [spots_writer_often_1_g]
   have c0:cm .eql (((0:Nat):Int)) 0=true:=rfl
   simp only [c0,_root_.cond_true]
   refine ⟨_,[],s.out.Next,by rw [List.append_nil],?_,fun _ _=>rfl⟩
   rw [List.append_nil,Nat.mul_zero,Nat.add_zero]
   refine (wr_emp h1 h2).of_iff fun w=>?_
   constructor
   · exact fun h=>⟨0,Nat.le_refl _,h⟩
   · rintro ⟨k,hk,h⟩
     obtain rfl:k=0:=by omega
     exact h
 | succ left ih=>
   intro N hle hN s b h1 h2 h3
   obtain ⟨N,rfl⟩:∃K,N=K+1:=⟨N-1,by omega⟩
   rw [spots_writer_often_1_g]
   have c0:cm .eql (((left+1:Nat):Int)) 0=false:=by rw [cm_eql];exact decide_eq_false (by omega)
   have c1:ar .sub .i64 (((left+1:Nat):Int)) 1=(left:Int):=by rw [ar_sub (by omega) (by omega)];omega
   rw [Nat.mul_add,Nat.mul_one] at h3
   obtain ⟨q,X1,nx1,r1,r2,r3⟩:=hc N (by omega) s b h1 h2 (by omega)
   have hb:(s.out.Sets++X1).length=b+cnt c:=r2.len
   obtain ⟨q2,X2,nx2,t1,t2,t3⟩:=ih N (by omega) (by omega) ⟨⟨s.out.Sets++X1,s.out.None,s.out.First,s.out.Last,nx1⟩⟩ (b+cnt c) hb r2.sn.1 (by omega)
   obtain ⟨p,nx3,s1,s2,s3⟩:=Wr.behind (N:=N) (s:=⟨⟨s.out.Sets++X1++X2,s.out.None,s.out.First,s.out.Last,nx2⟩⟩) (by omega) (by omega) r2 t2 (sets_app hb) t3
   simp only [c0,c1,_root_.cond_false,r1,t1,s1,Option.bind_some]
   refine ⟨_,X1++X2,nx3,by rw [←List.append_assoc],?_,fun k hk=>by rw [s3 k hk];exact (t3 k (by omega)).trans (r3 k hk)⟩
   rw [←List.append_assoc,show b+cnt c*(left+1)=b+cnt c+cnt c*left by rw [Nat.mul_add,Nat.mul_one];omega]
   refine s2.opt.of_iff fun w=>?_
   constructor
   · rintro (rfl | ⟨u,v,rfl,h4,k,hk,h5⟩)
     · exact ⟨0,Nat.zero_le _,rfl⟩
     · exact ⟨k+1,by omega,u,v,rfl,h4,h5⟩
   · rintro ⟨k,hk,h⟩
     cases k with
     | zero=>exact .inl h
     | succ k=>
       obtain ⟨u,v,e,h4,h5⟩:=h
       exact .inr ⟨u,v,e,h4,k,by omega,h5⟩
theorem lp_from (A:Lg) (lo:Nat) (P:Nat→Prop) (w:List UInt8):lcat (lpow A lo) (fun w=>∃k,P k∧lpow A k w) w↔∃k,P k∧lpow A (lo+k) w:=by
 constructor
 · rintro ⟨u,v,rfl,h1,k,hp,h2⟩
   exact ⟨k,hp,(lp_add A k lo _).1 ⟨u,v,rfl,h1,h2⟩⟩
 · rintro ⟨k,hp,h⟩
   obtain ⟨u,v,e,h1,h2⟩:=(lp_add A k lo w).2 h
   exact ⟨u,v,e,h1,k,hp,h2⟩
theorem often_l {c p1:Node} {M K lo:Nat} (hM:900≤M) (hK:M+20≤K) (hc:∀N,M≤N→WOk (spots_writer_write_g N) c) (hlo:p1.min=(lo:Int)) (hl16:lo≤16) (hmx:p1.max=-1∨∃hi:Nat,p1.max=(hi:Int)∧lo≤hi∧hi≤16) (no:Bool) (fi la:List Int) {b:Nat}:
 ∀(m i:Nat) (sets:List CSet) (nx:List (List Int)) (x:Gspots_part) (e:Nat),i≤lo→lo<i+m→Wr b e sets nx x (lpow (lang c) i)→e+cnt c*(lo-i)+(if p1.max=-1 then cnt c else cnt c*(p1.max.toNat-lo))≤400→
 ∃p X nx',spots_writer_often_l1 (spots_writer_write_g K) (spots_writer_often_1_g K) K p1 c m i no fi la sets nx x.first x.last x.none=some (p,⟨⟨sets++X,no,fi,la,nx'⟩⟩)∧Wr b (e+cnt c*(lo-i)+(if p1.max=-1 then cnt c else cnt c*(p1.max.toNat-lo))) (sets++X) nx' p (fun w=>∃k:Nat,lo≤k∧(p1.max=-1∨(k:Int)≤p1.max)∧lpow (lang c) k w)∧∀k,k<b→nx'[k]?=nx[k]?:=by
 intro m
 induction m with
 | zero=>intro i sets nx x e h1 h2;omega
 | succ m ih=>
   intro i sets nx x e h1 h2 hx he
   rw [spots_writer_often_l1,hlo]
   by_cases g:i<lo
   · have c':cm .lss (i:Int) (lo:Int)=true:=by rw [cm_lss];exact decide_eq_true (by omega)
     obtain ⟨d,hd⟩:∃d,lo-i=d+1:=⟨lo-i-1,by omega⟩
     have hd2:lo-(i+1)=d:=by omega
     rw [hd,Nat.mul_add,Nat.mul_one] at he ⊢
     obtain ⟨q,X1,nx1,r1,r2,r3⟩:=hc K (by omega) ⟨⟨sets,no,fi,la,nx⟩⟩ e hx.len hx.sn.1 (by omega)
     obtain ⟨p,nx2,s1,s2,s3⟩:=Wr.behind (N:=K) (s:=⟨⟨sets++X1,no,fi,la,nx1⟩⟩) (by omega) (by omega) hx r2 (sets_app hx.len) r3
     obtain ⟨p',X2,nx3,t1,t2,t3⟩:=ih (i+1) _ _ p _ (by omega) (by omega) (s2.of_iff fun w=>(lc_iff (fun _=>Iff.rfl) (fun w=>(lp_one (lang c) w).symm) w).trans (lp_add (lang c) 1 i w)) (by rw [hd2];omega)
     rw [c',_root_.cond_true]
     simp only [Option.bind_some,r1,s1,inc1 (show i≤100000000 by omega)]
     refine ⟨p',X1++X2,nx3,by rw [t1,List.append_assoc],?_,fun k hk=>by rw [t3 k hk,s3 k hk];exact r3 k (by have:=hx.le;omega)⟩
     rw [←List.append_assoc]
     rw [hd2] at t2
     have ee:e+(cnt c*d+cnt c)+(if p1.max=-1 then cnt c else cnt c*(p1.max.toNat-lo))=e+cnt c+cnt c*d+(if p1.max=-1 then cnt c else cnt c*(p1.max.toNat-lo)):=by omega
     rw [ee]
     exact t2
   · have hi0:i=lo:=by omega
     subst hi0
     have c':cm .lss (i:Int) (i:Int)=false:=by rw [cm_lss];exact decide_eq_false (by omega)
     rw [Nat.sub_self,Nat.mul_zero,Nat.add_zero] at he ⊢
     rw [c',_root_.cond_false,cm_eql,cond_dec]
     rcases hmx with hm | ⟨hi,hm,hh1,hh2⟩
     · rw [if_pos hm] at he ⊢
       rw [if_pos hm]
       obtain ⟨q,X1,nx1,r1,r2,r3⟩:=hc K (by omega) ⟨⟨sets,no,fi,la,nx⟩⟩ e hx.len hx.sn.1 (by omega)
       obtain ⟨nx2,u1,u2,u3⟩:=Wr.loop (N:=K) (s:=⟨⟨sets++X1,no,fi,la,nx1⟩⟩) (by omega) (by omega) r2
       obtain ⟨p,nx3,s1,s2,s3⟩:=Wr.behind (N:=K) (s:=⟨⟨sets++X1,no,fi,la,nx2⟩⟩) (by omega) (by omega) hx u2 (sets_app hx.len) (fun k hk=>(u3 k hk).trans (r3 k hk))
       simp only [Option.bind_some,r1,u1,s1]
       refine ⟨p,X1,nx3,rfl,s2.of_iff fun w=>?_,fun k hk=>by have:=hx.le;rw [s3 k hk];exact (u3 k (by omega)).trans (r3 k (by omega))⟩
       have h5:=lp_from (lang c) i (fun _=>True) w
       simp only [true_and] at h5
       rw [h5]
       constructor
       · rintro ⟨k,h⟩;exact ⟨i+k,by omega,.inl hm,h⟩
       · rintro ⟨k,hk,-,h⟩;exact ⟨k-i,by rwa [show i+(k-i)=k by omega]⟩
     · have hne:¬ p1.max=-1:=by omega
       rw [if_neg hne] at he ⊢
       rw [if_neg hne]
       have e1:ar .sub .i64 p1.max (i:Int)=((hi-i:Nat):Int):=by rw [hm,ar_sub (by omega) (by omega)];omega
       have e2:p1.max.toNat-i=hi-i:=by rw [hm,Int.toNat_natCast]
       rw [e2] at he ⊢
       obtain ⟨q,X1,nx1,r1,r2,r3⟩:=rest_p hM hc (hi-i) K (by omega) (by omega) ⟨⟨sets,no,fi,la,nx⟩⟩ e hx.len hx.sn.1 he
       obtain ⟨p,nx3,s1,s2,s3⟩:=Wr.behind (N:=K) (s:=⟨⟨sets++X1,no,fi,la,nx1⟩⟩) (by omega) (by omega) hx r2 (sets_app hx.len) r3
       simp only [Option.bind_some,e1,r1,s1]
       refine ⟨p,X1,nx3,rfl,s2.of_iff fun w=>?_,fun k hk=>by have:=hx.le;rw [s3 k hk];exact r3 k (by omega)⟩
       rw [lp_from (lang c) i (fun k=>k≤hi-i) w]
       constructor
       · rintro ⟨k,hk,h⟩;exact ⟨i+k,by omega,.inr (by rw [hm];omega),h⟩
       · rintro ⟨k,hk,h1 | h1,h⟩
         · exact absurd h1 hne
         · exact ⟨k-i,by omega,by rwa [show i+(k-i)=k by omega]⟩
theorem kid_le {n c:Node} (h:c∈n.kids):c.size+1≤n.size:=by
 rw [Node.size_eq n]
 have key:∀l:List Node,c∈l→c.size≤Node.sizes l:=by
  intro l
  induction l with
  | nil=>intro h;cases h
  | cons a r ih=>
    intro h
    rw [Node.sizes_cons]
    rcases List.mem_cons.1 h with rfl | h
    · omega
    · have:=ih h;omega
 have:=key _ h
 omega
end Pl
end Go.Proofs.YtjhbgkakhaonaaaGreatDoor
namespace Go.Proofs.YtjhbgkakhaonaaaGreatDoor
open Go
open Sh Gn Mx
namespace Pl
mutual
def Lens:Node→Prop
 | .mk _ _ kids _ _=>kids.length≤9223372036854775807∧LensL kids
def LensL:List Node→Prop
 | []=>True
 | n::r=>Lens n∧LensL r
end
theorem lensL_iff:∀{l:List Node},LensL l↔∀n∈l,Lens n
 | []=>by simp [LensL]
 | a::r=>by rw [LensL,lensL_iff];simp
theorem Lens_len {n:Node} (h:Lens n):n.kids.length≤9223372036854775807:=by cases n;rw [Lens] at h;exact h.1
theorem Lens_kid {n c:Node} (h:Lens n) (hc:c∈n.kids):Lens c:=by cases n;rw [Lens] at h;exact lensL_iff.1 h.2 c hc
theorem top_kind {n:Node} (h:Rx.right n=true):n.kind=1∨n.kind=2∨n.kind=3∨n.kind=4:=by
 rw [Rx.right_eq,Bool.and_eq_true] at h
 have ht:=h.1
 unfold Rx.topB at ht
 simp only [Bool.and_eq_true,Bool.or_eq_true,beq_iff_eq] at ht
 have:=ht.1.1.1
 omega
theorem kids_right {n:Node} (h:Rx.right n=true):∀c∈n.kids,Rx.right c=true:=by
 rw [Rx.right_eq,Bool.and_eq_true] at h
 exact fun c hc=>((Rx.rights_iff _ _).1 h.2 c hc).1
theorem rep_right {n:Node} (h:Rx.right n=true) (h4:n.kind=4):∃c,n.kids=[c]∧∃lo:Nat,n.min=(lo:Int)∧lo≤16∧(n.max=-1∨∃hi:Nat,n.max=(hi:Int)∧lo≤hi∧hi≤16∧1≤hi):=by
 rw [Rx.right_eq,Bool.and_eq_true] at h
 have ht:=h.1
 unfold Rx.topB at ht
 simp [h4] at ht
 obtain ⟨-,h1,ht⟩:=ht
 obtain ⟨c,hc⟩:=List.length_eq_one_iff.1 h1
 unfold Rx.timesB at ht
 split at ht
 · cases ht
 · rename_i g
   simp at g ht
   refine ⟨c,hc,n.min.toNat,by omega,by omega,?_⟩
   by_cases e:n.max=-1
   · exact .inl e
   · exact .inr ⟨n.max.toNat,by omega,by omega,by omega,by omega⟩
theorem alt_right {n:Node} (h:Rx.right n=true) (h3:n.kind=3):1<n.kids.length:=by
 rw [Rx.right_eq,Bool.and_eq_true] at h
 have ht:=h.1
 unfold Rx.topB at ht
 simp [h3] at ht
 exact ht.2
theorem cap_mul (a k:Nat):min (min a 513*k) 513=min (a*k) 513:=by
 rcases Nat.le_total a 513 with h | h
 · rw [Nat.min_eq_left h]
 · rw [Nat.min_eq_right h]
   cases k with
   | zero=>rfl
   | succ k=>
     have h1:513≤513*(k+1):=Nat.le_mul_of_pos_right _ (by omega)
     have h2:513*(k+1)≤a*(k+1):=Nat.mul_le_mul_right _ h
     omega
theorem mi_mul {a k:Nat} (hk:k≤17) {x:Int} (hx:x=(k:Int)):mi (ar .mul .i64 ((min a 513:Nat):Int) x) 513=((min (a*k) 513:Nat):Int):=by
 subst hx
 have h1:min a 513*k≤513*17:=Nat.mul_le_mul (by omega) hk
 have e:((min a 513:Nat):Int)*(k:Int)=((min a 513*k:Nat):Int):=by rw [Int.natCast_mul]
 rw [ar_mul (by rw [e];omega) (by rw [e];omega),e,←cap_mul]
 unfold mi
 split<;>omega
theorem count_p:∀(m:Nat) (n:Node),n.size≤m→Lens n→Rx.right n=true→∀N,m+2≤N→spots_count_g N n=some ((min (cnt n) 513:Nat):Int):=by
 intro m
 induction m with
 | zero=>intro n h;have:=n.size_pos;omega
 | succ m ih=>
   intro n h hm hri N hN
   obtain ⟨N,rfl⟩:∃K,N=K+1:=⟨N-1,by omega⟩
   have hkl:=n.kids_le
   rw [spots_count_g,cnt_eq]
   simp only [cm_eql,cond_dec]
   by_cases k1:n.kind=1
   · rw [if_pos k1,if_pos k1];rfl
   rw [if_neg k1,if_neg k1]
   have hlen:=Lens_len hm
   have hr:∀c∈n.kids,spots_count_g N c=some ((min (cnt c) 513:Nat):Int):=fun c hc=>ih c (by have:=kid_le hc;omega) (Lens_kid hm hc) (kids_right hri c hc) N (by omega)
   have key :∀(f i S:Nat),i≤n.kids.length→n.kids.length<i+f→spots_count_l1 (spots_count_g N) n f ((min S 513:Nat):Int) i=some ((min (if n.kind=4 then (if n.max=-1 then (S+cnts (n.kids.drop i))*(n.min.toNat+1) else (S+cnts (n.kids.drop i))*n.max.toNat) else S+cnts (n.kids.drop i)) 513:Nat):Int):=by
    intro f
    induction f with
    | zero=>intro i S h1 h2;omega
    | succ f ihf=>
      intro i S h1 h2
      rw [spots_count_l1]
      by_cases c:i<n.kids.length
      · have c':cm .lss (i:Int) (ll (rw _ nodeRow n.kids))=true:=by rw [cm_lss,ll_eq];exact decide_eq_true (by omega)
        have e1:mi (ar .add .i64 ((min S 513:Nat):Int) ((min (cnt n.kids[i]) 513:Nat):Int)) 513=((min (S+cnt n.kids[i]) 513:Nat):Int):=by
         rw [ar_add (by omega) (by omega)]
         unfold mi
         split<;>omega
        rw [c',_root_.cond_true,at_in c,Option.bind_some,hr _ (List.getElem_mem c),Option.bind_some,e1,incL (by omega),ihf (i+1) _ (by omega) (by omega)]
        rw [List.drop_eq_getElem_cons c,cnts_cons,Nat.add_assoc]
      · have c':cm .lss (i:Int) (ll (rw _ nodeRow n.kids))=false:=by rw [cm_lss,ll_eq];exact decide_eq_false (by omega)
        rw [c',_root_.cond_false,List.drop_of_length_le (by omega),cnts_nil,Nat.add_zero,cm_neq,cond_not,cond_dec]
        by_cases k4:n.kind=4
        · rw [if_pos k4,if_pos k4,cm_eql,cond_dec]
          obtain ⟨c0,-,lo,e0,e1,e2⟩:=rep_right hri k4
          rcases e2 with e2 | ⟨hi,e2,e3,e4,e5⟩
          · rw [if_pos e2,if_pos e2]
            rw [mi_mul (k:=lo+1) (by omega) (by rw [e0,ar_add (by omega) (by omega)];omega),e0,Int.toNat_natCast]
          · have hne:¬ n.max=-1:=by omega
            rw [if_neg hne,if_neg hne,mi_mul (k:=hi) (by omega) e2,e2,Int.toNat_natCast]
        · rw [if_neg k4,if_neg k4]
   have:=key N 0 0 (by omega) (by omega)
   rw [Nat.zero_min,List.drop_zero,Nat.zero_add] at this
   exact this
theorem zero_p:∀(m:Nat) (n:Node),n.size≤m→Rx.right n=true→cnt n=0→∀w,lang n w↔w=[]:=by
 intro m
 induction m with
 | zero=>intro n h;have:=n.size_pos;omega
 | succ m ih=>
   intro n h hri hz w
   have hk:∀c∈n.kids,cnt c=0→∀w,lang c w↔w=[]:=fun c hc=>ih c (by have:=kid_le hc;omega) (kids_right hri c hc)
   have hr:=hri
   rcases top_kind hri with k | k | k | k
   · rw [cnt_eq,if_pos k] at hz;cases hz
   · rw [cnt_eq,if_neg (by omega),if_neg (by omega)] at hz
     obtain ⟨kd,S,kids,mn,mx⟩:=n
     have k:kd=2:=k
     subst k
     rw [lang2]
     have hk:∀c∈kids,cnt c=0→∀w,lang c w↔w=[]:=hk
     have hz:cnts kids=0:=hz
     have key:∀(kids:List Node),(∀c∈kids,cnt c=0→∀w,lang c w↔w=[])→cnts kids=0→∀w,(langCat kids w↔w=[]):=by
      intro kids
      induction kids with
      | nil=>intro _ _ w;rw [langCat];rfl
      | cons a r ihr=>
        intro hk hz w
        rw [cnts_cons] at hz
        rw [langCat_cons,lc_iff (A':=lnil) (B':=lnil) (hk a List.mem_cons_self (by omega)) (ihr (fun c hc=>hk c (List.mem_cons_of_mem _ hc)) (by omega))]
        exact lc_nil lnil w
     exact key kids hk hz w
   · have hal:=alt_right hri k
     rw [cnt_eq,if_neg (by omega),if_neg (by omega)] at hz
     obtain ⟨kd,S,kids,mn,mx⟩:=n
     have k:kd=3:=k
     subst k
     rw [lang3]
     have hk:∀c∈kids,cnt c=0→∀w,lang c w↔w=[]:=hk
     have hz:cnts kids=0:=hz
     have hal:1<kids.length:=hal
     have key:∀(kids:List Node),(∀c∈kids,cnt c=0→∀w,lang c w↔w=[])→cnts kids=0→(langAlt kids w↔kids≠[]∧w=[]):=by
      intro kids
      induction kids with
      | nil=>intro _ _;rw [langAlt];simp
      | cons a r ihr=>
        intro hk hz
        rw [cnts_cons] at hz
        rw [langAlt_cons,hk a List.mem_cons_self (by omega),ihr (fun c hc=>hk c (List.mem_cons_of_mem _ hc)) (by omega)]
        constructor
        · rintro (h | ⟨-,h⟩)<;>exact ⟨by simp,h⟩
        · exact fun h=>.inl h.2
     rw [key kids hk hz]
     exact ⟨fun h=>h.2,fun h=>⟨fun e=>by rw [e] at hal;simp at hal,h⟩⟩
   · obtain ⟨c,hc,lo,e0,e1,e2⟩:=rep_right hri k
     rw [cnt_eq,if_neg (by omega),if_pos k,hc,cnts_cons,cnts_nil,Nat.add_zero] at hz
     have hc0:cnt c=0:=by
      rcases e2 with e2 | ⟨hi,e2,-,-,e5⟩
      · rw [if_pos e2] at hz
        rcases Nat.mul_eq_zero.1 hz with h | h
        · exact h
        · omega
      · rw [if_neg (by omega),e2,Int.toNat_natCast] at hz
        rcases Nat.mul_eq_zero.1 hz with h | h
        · exact h
        · omega
     have hl:=hk c (by rw [hc];simp) hc0
     obtain ⟨kd,S,kids,mn,mx⟩:=n
     have k:kd=4:=k
     have hc:kids=[c]:=hc
     have f0:mn=(lo:Int):=e0
     have f2:mx=-1∨∃hi:Nat,mx=(hi:Int)∧lo≤hi∧hi≤16∧1≤hi:=e2
     subst k hc
     rw [lang4 (by decide) (by decide) (by decide),langRep_cons]
     constructor
     · rintro ⟨k,-,-,h⟩;exact (lp_nil hl k w).1 h
     · intro h
       exact ⟨lo,by rw [f0,Int.toNat_natCast];exact Nat.le_refl _,f2.imp id fun ⟨hi,e3,e4,_⟩=>by omega,(lp_nil hl lo w).2 h⟩
theorem write_p:∀(m:Nat) (n:Node),n.size≤m→Lens n→Rx.right n=true→∀N,2100+30*m≤N→WOk (spots_writer_write_g N) n:=by
 intro m
 induction m with
 | zero=>intro n h;have:=n.size_pos;omega
 | succ m ih=>
   intro n h hm hri N hN s b h1 h2 h3
   obtain ⟨N,rfl⟩:∃K,N=K+1:=⟨N-1,by omega⟩
   have hkl:=n.kids_le
   have hrec:∀c∈n.kids,∀K,2100+30*m≤K→WOk (spots_writer_write_g K) c:=fun c hc=>ih c (by have:=kid_le hc;omega) (Lens_kid hm hc) (kids_right hri c hc)
   have hlen:=Lens_len hm
   rw [spots_writer_write_g]
   simp only [cm_eql,cond_dec]
   rcases top_kind hri with k | k | k | k
   · rw [if_pos k,app_eq (show s.out.Sets.length+[n.set].length≤1000000000 by simp;omega),app_eq (show s.out.Next.length+([[]]:List (List Int)).length≤1000000000 by simp;omega)]
     have hc:cnt n=1:=by rw [cnt_eq,if_pos k]
     simp only [Option.bind_some,ll_eq,h1]
     rw [hc]
     refine ⟨_,[n.set],_,rfl,(wr_one h1 h2 n.set).of_iff fun w=>?_,fun k hk=>List.getElem?_append_left (by omega)⟩
     obtain ⟨kd,S,kids,mn,mx⟩:=n
     have k:kd=1:=k
     subst k
     exact (lang1 S kids mn mx w).symm
   · rw [if_neg (by omega),if_neg (by omega),if_neg (by omega)]
     have hc:cnt n=cnts n.kids:=by rw [cnt_eq,if_neg (by omega),if_neg (by omega)]
     rw [hc] at h3 ⊢
     obtain ⟨p,X,nx',r1,r2,r3⟩:=wcat_l (N:=N) (n:=n) (rec:=spots_writer_write_g N) (by omega) (by omega) (fun c hc=>hrec c hc N (by omega)) s.out.None s.out.First s.out.Last N 0 s.out.Sets s.out.Next ⟨[],[],true⟩ lnil b (by omega) (by omega) (wr_emp h1 h2) (by rw [List.drop_zero];exact h3)
     rw [List.drop_zero] at r2
     refine ⟨p,X,nx',r1,r2.of_iff fun w=>?_,r3⟩
     rw [lc_nil]
     obtain ⟨kd,S,kids,mn,mx⟩:=n
     have k:kd=2:=k
     subst k
     exact (lang2 S kids mn mx w).symm
   · rw [if_neg (by omega),if_pos k]
     have hc:cnt n=cnts n.kids:=by rw [cnt_eq,if_neg (by omega),if_neg (by omega)]
     rw [hc] at h3 ⊢
     obtain ⟨p,X,nx',r1,r2,r3⟩:=walt_l (N:=N) (n:=n) (rec:=spots_writer_write_g N) (by omega) (by omega) (fun c hc=>hrec c hc N (by omega)) s.out.None s.out.First s.out.Last N 0 s.out.Sets s.out.Next ⟨[],[],false⟩ (fun _=>False) b (by omega) (by omega) (wr_no h1 h2) (by rw [List.drop_zero];exact h3)
     rw [List.drop_zero] at r2
     refine ⟨p,X,nx',r1,r2.of_iff fun w=>?_,r3⟩
     rw [_root_.false_or]
     obtain ⟨kd,S,kids,mn,mx⟩:=n
     have k:kd=3:=k
     subst k
     exact (lang3 S kids mn mx w).symm
   · rw [if_neg (by omega),if_neg (by omega),if_pos k]
     obtain ⟨c,hc,lo,e0,e1,e2⟩:=rep_right hri k
     obtain ⟨N,rfl⟩:∃K,N=K+1:=⟨N-1,by omega⟩
     have hcm:c∈n.kids:=by rw [hc];simp
     have hcs:=kid_le hcm
     have a0:at_ n.kids 0=some c:=by rw [hc];rfl
     rw [spots_writer_often_g]
     dsimp only
     rw [a0,Option.bind_some,count_p m c (by omega) (Lens_kid hm hcm) (kids_right hri c hcm) N (by omega),Option.bind_some,cm_eql,cond_dec]
     have hcn:cnt n=if n.max=-1 then cnt c*(n.min.toNat+1) else cnt c*n.max.toNat:=by rw [cnt_eq,if_neg (by omega),if_pos k,hc,cnts_cons,cnts_nil,Nat.add_zero]
     by_cases z:cnt c=0
     · have hz:cnt n=0:=by rw [hcn,z,Nat.zero_mul,Nat.zero_mul];split<;>rfl
       rw [z,if_pos (show ((min 0 513:Nat):Int)=0 from rfl),hz,Nat.add_zero]
       refine ⟨_,[],s.out.Next,by rw [List.append_nil];rfl,?_,fun _ _=>rfl⟩
       rw [List.append_nil]
       exact (wr_emp h1 h2).of_iff fun w=>(zero_p _ n (Nat.le_refl _) hri hz w).symm
     · rw [if_neg (by omega)]
       have tot:cnt c*(lo-0)+(if n.max=-1 then cnt c else cnt c*(n.max.toNat-lo))=cnt n:=by
        rw [hcn,Nat.sub_zero,e0,Int.toNat_natCast]
        split
        · rw [Nat.mul_add,Nat.mul_one]
        · rename_i hne
          rcases e2 with e2 | ⟨hi,e2,e3,-⟩
          · exact absurd e2 hne
          · rw [e2,Int.toNat_natCast,←Nat.mul_add,show lo+(hi-lo)=hi by omega]
       obtain ⟨p,X,nx',r1,r2,r3⟩:=often_l (c:=c) (p1:=n) (M:=2100+30*m) (K:=N) (lo:=lo) (by omega) (by omega) (hrec c hcm) e0 e1 (e2.imp id fun ⟨hi,q1,q2,q3,_⟩=>⟨hi,q1,q2,q3⟩) s.out.None s.out.First s.out.Last N 0 s.out.Sets s.out.Next ⟨[],[],true⟩ b (by omega) (by omega) (wr_emp h1 h2) (by omega)
       rw [Nat.add_assoc,tot] at r2
       have r1:spots_writer_often_l1 (spots_writer_write_g N) (spots_writer_often_1_g N) N n c N 0 s.out.None s.out.First s.out.Last s.out.Sets s.out.Next [] [] true=_:=r1
       rw [r1]
       refine ⟨p,X,nx',rfl,r2.of_iff fun w=>?_,r3⟩
       obtain ⟨kd,S,kids,mn,mx⟩:=n
       have k:kd=4:=k
       have hc:kids=[c]:=hc
       have f0:mn=(lo:Int):=e0
       subst k hc
       rw [lang4 (by decide) (by decide) (by decide),langRep_cons,f0,Int.toNat_natCast]
end Pl
end Go.Proofs.YtjhbgkakhaonaaaGreatDoor
namespace Go.Proofs.YtjhbgkakhaonaaaGreatDoor
open Go
open Sh Gn Mx
namespace Pl
variable {p:GSpots}
theorem hs_b {k:Nat} {c:UInt8} (h:k<p.Sets.length):Hs p.Sets k c↔hasB p c (k:Int)=true:=by
 unfold Hs hasB
 rw [Int.toNat_natCast,List.getElem?_eq_getElem h]
 constructor
 · rintro ⟨S,h1,h2⟩;cases h1;exact h2
 · exact fun h=>⟨_,rfl,h⟩
theorem ed_b {k j:Nat} (h:k<p.Next.length):Ed p.Next k j↔(j:Int)∈nextOf p (k:Int):=by
 unfold Ed nextOf
 rw [Int.toNat_natCast,List.getD_eq_getElem?_getD,List.getElem?_eq_getElem h]
 constructor
 · rintro ⟨l,h1,h2⟩;cases h1;exact h2
 · exact fun h=>⟨_,rfl,h⟩
theorem run_rd (hp:Ok p):∀(w:List UInt8) (op now:List Int) (k':Nat),w≠[]→Fit p op→((k':Int)∈runL p w op now↔∃k:Nat,(k:Int)∈op∧Gk.rd (Ed p.Next) (Hs p.Sets) k w k')
 | [],_,_,_,h,_=>absurd rfl h
 | [c],op,now,k',_,ho=>by
   show (k':Int)∈nowL p c op↔_
   unfold nowL
   rw [List.mem_filter]
   constructor
   · rintro ⟨h1,h2⟩
     have:=ho.2 _ h1
     exact ⟨k',h1,(hs_b (by omega)).2 h2,.inl ⟨rfl,rfl⟩⟩
   · rintro ⟨k,h1,h2,⟨-,rfl⟩ | ⟨j,-,h⟩⟩
     · have:=ho.2 _ h1
       exact ⟨h1,(hs_b (by omega)).1 h2⟩
     · exact h.elim
 | c ::d::w,op,now,k',_,ho=>by
   rw [runL,run_rd hp (d::w) (stepL p (nowL p c op)) (nowL p c op) k' (by simp) (show Fit p (stepL p (nowL p c op)) from fit_pick hp.low)]
   have hlen:=hp.len
   constructor
   · rintro ⟨j,h1,h2⟩
     unfold stepL at h1
     rw [mem_pick,decide_eq_true_eq,List.mem_flatMap] at h1
     obtain ⟨-,x,h3,h4⟩:=h1
     unfold nowL at h3
     rw [List.mem_filter] at h3
     have hx:=ho.2 _ h3.1
     obtain ⟨k,rfl⟩:=Int.eq_ofNat_of_zero_le hx.1
     exact ⟨k,h3.1,(hs_b (by omega)).2 h3.2,.inr ⟨j,(ed_b (by omega)).2 h4,h2⟩⟩
   · rintro ⟨k,h1,h2,⟨h,-⟩ | ⟨j,h3,h4⟩⟩
     · cases h
     · have hx:=ho.2 _ h1
       have h5:=(ed_b (by omega)).1 h3
       have hf:=(hp.next_at (k:=(k:Int)) ⟨by omega,by omega⟩).2.2 _ h5
       refine ⟨j,?_,h4⟩
       unfold stepL
       rw [mem_pick,decide_eq_true_eq,List.mem_flatMap]
       refine ⟨⟨by omega,by omega⟩,k,?_,h5⟩
       unfold nowL
       rw [List.mem_filter]
       exact ⟨h1,(hs_b (by omega)).1 h2⟩
theorem match_lang {q:Gspots_part} (hp:Low p) (hok:okB p=true) (h1:p.First=q.first) (h2:p.Last=q.last) (h3:p.None=q.none) (s:ByteArray):matchB p s=true↔Gk.L (Ed p.Next) (Hs p.Sets) (pt q) s.data.toList:=by
 have hk:=ok_of hp hok
 unfold matchB
 rw [if_pos hok]
 by_cases e:s=ByteArray.empty
 · rw [if_pos e,e,h3]
   constructor
   · exact fun h=>.inl ⟨rfl,h⟩
   · rintro (⟨-,h⟩ | ⟨k,k',-,-,h⟩)
     · exact h
     · exact h.elim
 · rw [if_neg e]
   have hne:s.data.toList≠[]:=fun h=>e (by obtain ⟨⟨l⟩⟩:=s;simp at h;subst h;rfl)
   rw [List.any_eq_true]
   constructor
   · rintro ⟨x,g1,g2⟩
     rw [decide_eq_true_eq] at g2
     have hx:=hk.last.2 _ g2
     obtain ⟨k',rfl⟩:=Int.eq_ofNat_of_zero_le hx.1
     obtain ⟨k,g3,g4⟩:=(run_rd hk _ _ _ k' hne hk.first).1 g1
     exact .inr ⟨k,k',by rw [h1] at g3;exact g3,by rw [h2] at g2;exact g2,g4⟩
   · rintro (⟨h,-⟩ | ⟨k,k',g1,g2,g3⟩)
     · exact absurd h hne
     · have g1:(k:Int)∈q.first:=g1
       have g2:(k':Int)∈q.last:=g2
       exact ⟨k',(run_rd hk _ _ _ k' hne hk.first).2 ⟨k,by rw [h1];exact g1,g3⟩,by rw [decide_eq_true_eq,h2];exact g2⟩
theorem rs_of {many:Nat}:∀{l:List Int} {last:Int},l.Pairwise (·<·)→(∀x∈l,last<x∧x<(many:Int))→rs many last l=true
 | [],_,_,_=>rfl
 | x::l,last,h,hx=>by
   have h1:=List.pairwise_cons.1 h
   have h2:=hx x List.mem_cons_self
   rw [rs,if_neg (by omega)]
   exact rs_of h1.2 fun y hy=>⟨h1.1 y hy,(hx y (List.mem_cons_of_mem _ hy)).2⟩
theorem rs_rg {e:Nat} {l:List Int} (h:Rg 0 e l):rs e (-1) l=true:=rs_of h.1 fun x hx=>by have:=h.2 x hx;omega
theorem wr_match {e:Nat} {sets:List CSet} {nx:List (List Int)} {q:Gspots_part} {A:Lg} (he:e≤200) (h:Wr 0 e sets nx q A):Low ⟨sets,q.none,q.first,q.last,nx⟩∧okB ⟨sets,q.none,q.first,q.last,nx⟩=true∧∀s,matchB ⟨sets,q.none,q.first,q.last,nx⟩ s=true↔A s.data.toList:=by
 have hl:=h.len
 have hn:=h.sn.1
 have each:∀l∈nx,Rg 0 e l:=fun l hl=>by
  obtain ⟨k,hk⟩:=List.mem_iff_getElem?.1 hl
  exact h.sn.2 k l (Nat.zero_le _) hk
 have low:Low ⟨sets,q.none,q.first,q.last,nx⟩:=⟨by show sets.length≤200;omega,by show nx.length≤200;omega,by have:=rg_len h.pr.first;show q.first.length≤200;omega,by have:=rg_len h.pr.last;show q.last.length≤200;omega,fun l hl=>by have:=rg_len (each l hl);omega⟩
 have hok:okB ⟨sets,q.none,q.first,q.last,nx⟩=true:=by
  unfold okB
  simp only [hl,hn,Bool.and_eq_true,decide_eq_true_eq,Bool.not_eq_true',decide_eq_false_iff_not,List.all_eq_true]
  exact ⟨by omega,trivial,rs_rg h.pr.first,rs_rg h.pr.last,fun l hl=>rs_rg (each l hl)⟩
 exact ⟨low,hok,fun s=>(match_lang low hok rfl rfl rfl s).trans (h.lg _)⟩
end Pl
end Go.Proofs.YtjhbgkakhaonaaaGreatDoor
namespace Go.Proofs.YtjhbgkakhaonaaaGreatDoor
open Go Go.Lib
namespace Qu
def runeN (n b0 b1 b2 b3:Nat):Nat:=
 if b0<128 then 1
 else if 194≤b0∧b0≤223∧1<n∧128≤b1∧b1≤191 then 2
 else if 224≤b0∧b0≤239∧(2<n∧128≤b1∧b1≤191∧128≤b2∧b2≤191)∧(b0≠224∨160≤b1)∧(b0≠237∨b1<160) then 3
 else if 240≤b0∧b0≤244∧(3<n∧128≤b1∧b1≤191∧128≤b2∧b2≤191∧128≤b3∧b3≤191)∧(b0≠240∨144≤b1)∧(b0≠244∨b1<144) then 4
 else 0
def bt (l:List UInt8) (i:Nat):Nat:=match l[i]? with | some b=>b.toNat | none=>0
theorem bt_lt (l:List UInt8) (i:Nat):bt l i<256:=by
 unfold bt
 split
 · rename_i b _;exact b.toNat_lt
 · omega
def rune (l:List UInt8) (i:Nat):Nat:=runeN (l.length-i) (bt l i) (bt l (i+1)) (bt l (i+2)) (bt l (i+3))
def unit (l:List UInt8) (i:Nat):Nat:=if rune l i=0 then 1 else rune l i
def safe (l:List UInt8) (i:Nat):Bool:=decide (0<rune l i)&&decide (32≤bt l i)&&decide (bt l i≠127)
def hexd (n:Nat):UInt8:=if n<10 then UInt8.ofNat (48+n) else UInt8.ofNat (87+n)
def enc (l:List UInt8) (i:Nat):List UInt8:=
 if bt l i=34∨bt l i=92 then [92,UInt8.ofNat (bt l i)] else if safe l i=true then (l.drop i).take (unit l i) else [92,120,hexd (bt l i / 16),hexd (bt l i % 16)]
def encs (l:List UInt8):Nat→Nat→List UInt8
 | 0,_=>[]
 | f+1,i=>if i<l.length then enc l i++encs l f (i+unit l i) else []
def rest (l:List UInt8) (i:Nat):List UInt8:=encs l (l.length+1) i
def dig (b:Nat):Nat:=if 48≤b∧b≤57 then b-48 else if 97≤b∧b≤102 then b-87 else 16
inductive Esc where
 | ok (b:Nat) (n:Nat)
 | bad (e:Nat)
 deriving DecidableEq
def esc (l:List UInt8) (i:Nat):Esc:=
 if l.length<i+2 then .bad 1
 else if bt l (i+1)=34∨bt l (i+1)=92 then .ok (bt l (i+1)) 2
 else if bt l (i+1)≠120 then .bad 2
 else if l.length<i+3 then .bad 1
 else if dig (bt l (i+2))=16 then .bad 2
 else if l.length<i+4 then .bad 1
 else if dig (bt l (i+3))=16 then .bad 2
 else .ok (16*dig (bt l (i+2))+dig (bt l (i+3))) 4
inductive Got where
 | ok (t:List UInt8) (p:Nat)
 | bad (e:Nat) (p:Nat)
inductive Un where
 | ok (t:List UInt8) (n:Nat)
 | bad (e:Nat) (p:Nat)
def un (l:List UInt8) (i:Nat):Un:=
 if bt l i=92 then (match esc l i with | .ok b n=>.ok [UInt8.ofNat b] n | .bad e=>.bad e (if e=1 then l.length else i))
 else if safe l i=true then .ok ((l.drop i).take (unit l i)) (unit l i)
 else .bad 2 i
def body (l:List UInt8):Nat→List UInt8→Nat→Got
 | 0,_,_=>.bad 1 l.length
 | f +1,out,i=>
   if i<l.length then
    if bt l i=34 then .ok out (i+1)
    else match un l i with
     | .ok t n=>body l f (out++t) (i+n)
     | .bad e p=>.bad e p
   else .bad 1 l.length
def go (l:List UInt8) (out:List UInt8) (i:Nat):Got:=body l (l.length+1) out i
end Qu
end Go.Proofs.YtjhbgkakhaonaaaGreatDoor
namespace Go.Proofs.YtjhbgkakhaonaaaGreatDoor
open Go
open Sh Gn
namespace Pl
theorem bind_self {α:Type} {o:Option α}:(o.bind fun x=>some x)=o:=by cases o<;>rfl
theorem ite_and {p q:Prop} [Decidable p] [Decidable q]:(if p then some (decide q) else some false)=some (decide (p∧q)):=by by_cases p<;>by_cases q<;>simp_all
theorem ite_or {p q:Prop} [Decidable p] [Decidable q]:(if p then some true else some (decide q))=some (decide (p∨q)):=by by_cases p<;>by_cases q<;>simp_all
theorem ite_gen {p q r:Prop} [Decidable p] [Decidable q] [Decidable r]:(if p then some (decide q) else some (decide r))=some (decide ((p∧q)∨(¬ p∧r))):=by by_cases p<;>by_cases q<;>by_cases r<;>simp_all
theorem not_dec {p:Prop} [Decidable p]:(!decide p)=decide (¬ p):=by by_cases p<;>simp_all
theorem size_list (s:ByteArray):s.data.toList.length=s.size:=by simp
theorem sin_in {s:ByteArray} {i:Nat} (h:i<s.size):sinB s (i:Int)=true:=by simp [sinB,h]
theorem sa_bt {s:ByteArray} {i:Nat}:sa s (i:Int)=(Qu.bt s.data.toList i:Int):=by
 show ((s.data.getD _ 0).toNat:Int)=_
 unfold Qu.bt
 rw [Int.toNat_natCast,Array.getD_eq_getD_getElem?,Array.getElem?_toList]
 cases s.data[i]?<;>rfl
end Pl
end Go.Proofs.YtjhbgkakhaonaaaGreatDoor
