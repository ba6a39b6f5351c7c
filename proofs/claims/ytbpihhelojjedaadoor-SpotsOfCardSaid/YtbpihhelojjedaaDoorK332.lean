/- Texts that the proof leans on. -/
import Derived.Test.YtbpihhelojjedaaDoorK325
import Derived.Test.YtbpihhelojjedaaDoorK331
import Derived.Lib.DecodeN
set_option linter.unusedVariables false
set_option linter.unusedSimpArgs false
set_option maxRecDepth 100000
set_option maxHeartbeats 4000000
namespace Go.Proofs.YtbpihhelojjedaaDoor
open Go
open Sh Gn Mx
namespace Pl
theorem inc_uniq:∀{l m:List Int},l.Pairwise (·<·)→m.Pairwise (·<·)→(∀x,x∈l↔x∈m)→l=m
 | [],[],_,_,_=>rfl
 | [],y::m,_,_,h=>by have:=(h y).2 List.mem_cons_self;cases this
 | x::l,[],_,_,h=>by have:=(h x).1 List.mem_cons_self;cases this
 | x ::l,y::m,h1,h2,h=>by
   rw [List.pairwise_cons] at h1 h2
   have e:x=y:=by
    rcases List.mem_cons.1 ((h x).1 List.mem_cons_self) with e | e
    · exact e
    · rcases List.mem_cons.1 ((h y).2 List.mem_cons_self) with e' | e'
      · exact e'.symm
      · have:=h1.1 _ e';have:=h2.1 _ e;omega
   subst e
   rw [inc_uniq h1.2 h2.2 fun z=>?_]
   have h3:=h z
   simp only [List.mem_cons] at h3
   constructor
   · intro hz
     rcases h3.1 (.inr hz) with e | e
     · have:=h1.1 _ hz;omega
     · exact e
   · intro hz
     rcases h3.2 (.inr hz) with e | e
     · have:=h2.1 _ hz;omega
     · exact e
theorem pick_rise {many:Nat} {f:Int→Bool}:(pickL many f).Pairwise (·<·):=by
 unfold pickL
 refine List.Pairwise.filter _ ?_
 rw [List.pairwise_map]
 exact List.pairwise_lt_range.imp fun {a b} h=>Int.ofNat_lt.2 h
theorem rg_pick {e:Nat} {r:List Int} {f:Int→Bool} (h:Rg 0 e r) (hm:∀x:Int,0≤x→x<(e:Int)→(x∈r↔f x=true)):r=pickL e f:=inc_uniq h.1 pick_rise fun x=>by
 rw [mem_pick]
 constructor
 · intro hx;have:=h.2 x hx;exact ⟨⟨by omega,by omega⟩,(hm x (by omega) (by omega)).1 hx⟩
 · rintro ⟨⟨h1,h2⟩,h3⟩;exact (hm x h1 h2).2 h3
theorem join_rg {e N M:Nat} {x y r:List Int} (he:e≤400) (hN:900≤N) (hM:900≤M) (hx:Rg 0 e x) (hy:Rg 0 e y) (hr:spots_merge_g N x y=some r):r16_Join_g M x y (e:Int)=some r:=by
 have h1:=rg_len hx
 have h2:=rg_len hy
 obtain ⟨q,q1,q2,q3⟩:=merge_rg he hN hx hy
 rw [hr] at q1
 cases q1
 rw [join_p (by omega) (by omega) (by omega) (by omega) (by omega) (by omega)]
 congr 1
 exact (rg_pick q2 fun z _ _=>by rw [q3];simp).symm
def linkL (e:Nat) (of sp:List Int):Nat→List (List Int)→List (List Int)
 | _,[]=>[]
 | i,l::r=>(if (i:Int)∈of then pickL e fun n=>decide (n∈l)||decide (n∈sp) else l)::linkL e of sp (i+1) r
theorem linkL_get {e:Nat} {of sp:List Int}:∀(l:List (List Int)) (i k:Nat),(linkL e of sp i l)[k]?=(l[k]?).map fun x=>if ((i+k:Nat):Int)∈of then pickL e fun n=>decide (n∈x)||decide (n∈sp) else x
 | [],_,_=>by simp [linkL]
 | l::r,i,0=>by simp [linkL]
 | l::r,i,k+1=>by
   rw [linkL,List.getElem?_cons_succ,List.getElem?_cons_succ,linkL_get r (i+1) k,show i+1+k=i+(k+1) by omega]
theorem link_l {e N:Nat} {nx:List (List Int)} {of sp:List Int} (he:e≤400) (hN:900≤N) (hn:Sn 0 e nx) (ho:Rg 0 e of) (hp:Rg 0 e sp):∀(m i:Nat) (acc:List (List Int)),i≤nx.length→nx.length<i+m→acc.length≤i→r16_link_l1 N nx of sp m i acc=some (acc++linkL e of sp i (nx.drop i)):=by
 have hol:=rg_len ho
 have hpl:=rg_len hp
 have hnl:=hn.1
 intro m
 induction m with
 | zero=>intro i acc h1 h2;omega
 | succ m ih=>
   intro i acc h1 h2 h3
   rw [r16_link_l1]
   by_cases c:i<nx.length
   · have c':cm .lss (i:Int) (ll (rw _ (cLs (cI .i64)) nx))=true:=by rw [cm_lss,ll_eq];exact decide_eq_true (by omega)
     have hr:=hn.2 i _ (Nat.zero_le _) (List.getElem?_eq_getElem c)
     have hrl:=rg_len hr
     rw [c',_root_.cond_true,in_p (by omega) (by omega),Option.bind_some,cond_dec,at_in c,ll_eq,hnl,List.drop_eq_getElem_cons c,linkL]
     have ap:∀x:List Int,app (cLs (cI .i64)) acc [x]=some (acc++[x]):=fun x=>app_eq (by simp;omega)
     by_cases g:(i:Int)∈of
     · rw [if_pos g,if_pos g,Option.bind_some,join_p (by omega) (by omega) (by omega) (by omega) (by omega) (by omega),Option.bind_some,ap]
       simp only [Option.bind_some]
       rw [inc1 (by omega),ih (i+1) _ (by omega) (by omega) (by simp;omega),List.append_assoc]
       rfl
     · rw [if_neg g,if_neg g,Option.bind_some,ap]
       simp only [Option.bind_some]
       rw [inc1 (by omega),ih (i+1) _ (by omega) (by omega) (by simp;omega),List.append_assoc]
       rfl
   · have c':cm .lss (i:Int) (ll (rw _ (cLs (cI .i64)) nx))=false:=by rw [cm_lss,ll_eq];exact decide_eq_false (by omega)
     rw [c',_root_.cond_false,List.drop_of_length_le (by omega),linkL,List.append_nil]
theorem link_sim {e N M:Nat} {s s':Gspots_writer} {of sp:List Int} (he:e≤400) (hN:900≤N) (hM:900≤M) (hn:Sn 0 e s.out.Next) (ho:Rg 0 e of) (hp:Rg 0 e sp) (h:spots_writer_next_g N of sp s=some s'):r16_link_g M s.out.Next of sp=some s'.out.Next:=by
 obtain ⟨nx',q1,q2,-,q4⟩:=next_p he hN hn ho hp
 rw [h] at q1
 cases q1
 unfold r16_link_g
 have hnl:=hn.1
 rw [show (0:Int)=((0:Nat):Int) from rfl,link_l he hM hn ho hp M 0 [] (by omega) (by omega) (by simp),List.nil_append,List.drop_zero]
 congr 1
 refine List.ext_getElem? fun k=>?_
 rw [linkL_get,Nat.zero_add]
 by_cases hk:k<s.out.Next.length
 · have hk':k<nx'.length:=by rw [q2.1];omega
   rw [List.getElem?_eq_getElem hk,List.getElem?_eq_getElem hk',Option.map_some]
   congr 1
   have r1:=hn.2 k _ (Nat.zero_le _) (List.getElem?_eq_getElem hk)
   have r2:=q2.2 k _ (Nat.zero_le _) (List.getElem?_eq_getElem hk')
   have key:∀x:Int,0≤x→(x∈nx'[k]↔x∈s.out.Next[k]∨((k:Int)∈of∧x∈sp)):=fun x hx=>by
    obtain ⟨j,rfl⟩:=Int.eq_ofNat_of_zero_le hx
    have a:=q4 k j
    have b1:Ed nx' k j↔(j:Int)∈nx'[k]:=⟨fun ⟨l,h1,h2⟩=>by rw [List.getElem?_eq_getElem hk'] at h1;cases h1;exact h2,fun h=>⟨_,List.getElem?_eq_getElem hk',h⟩⟩
    have b2:Ed s.out.Next k j↔(j:Int)∈s.out.Next[k]:=⟨fun ⟨l,h1,h2⟩=>by rw [List.getElem?_eq_getElem hk] at h1;cases h1;exact h2,fun h=>⟨_,List.getElem?_eq_getElem hk,h⟩⟩
    rw [b1,b2] at a
    exact a
   by_cases g:(k:Int)∈of
   · rw [if_pos g]
     refine (rg_pick r2 fun x h1 h2=>?_).symm
     rw [key x h1]
     simp [g]
   · rw [if_neg g]
     refine inc_uniq r1.1 r2.1 fun x=>?_
     by_cases h0:0≤x
     · rw [key x h0];simp [g]
     · constructor
       · intro h;have:=r1.2 x h;omega
       · intro h;have:=r2.2 x h;omega
 · have hk':¬ k<nx'.length:=by rw [q2.1];omega
   rw [List.getElem?_eq_none (show s.out.Next.length≤k by omega)]
   exact (List.getElem?_eq_none (show nx'.length≤k by omega)).symm
theorem behind_sim {e N M:Nat} {s s':Gspots_writer} {x y p:Gspots_part} (he:e≤400) (hN:900≤N) (hM:900≤M) (hl:s.out.Sets.length=e) (hn:Sn 0 e s.out.Next) (hx:Pr 0 e x) (hy:Pr 0 e y) (h:spots_writer_behind_g N x y s=some (p,s')) (S0:List CSet) (X0:List (List Int)):
 r16_behind_g M ⟨S0,X0,x.first,x.last,x.none⟩ ⟨s.out.Sets,s.out.Next,y.first,y.last,y.none⟩=some ⟨s'.out.Sets,s'.out.Next,p.first,p.last,p.none⟩:=by
 obtain ⟨nx',q1,q2,q3,q4⟩:=next_p he hN hn hx.last hy.first
 obtain ⟨f,f1,f2,f3⟩:=merge_rg he hN hx.first hy.first
 obtain ⟨l,l1,l2,l3⟩:=merge_rg he hN hx.last hy.last
 have k1:=link_sim he hN hM hn hx.last hy.first q1
 have k2:=join_rg he hN hM hx.first hy.first f1
 have k3:=join_rg he hN hM hx.last hy.last l1
 unfold spots_writer_behind_g at h
 unfold r16_behind_g
 rw [q1,f1,l1] at h
 dsimp only
 rw [k1]
 simp only [ll_eq,hl]
 rw [k2,k3]
 obtain ⟨xf,xl,xn⟩:=x
 obtain ⟨yf,yl,yn⟩:=y
 cases xn<;>cases yn<;>simp only [Option.bind_some,_root_.cond_true,_root_.cond_false] at h ⊢<;>cases h<;>rfl
def WEq (rec:Node→Gspots_writer→Option (Gspots_part × Gspots_writer)) (recR:Node→Gr16_W→Option Gr16_W) (n:Node):Prop:=∀(s:Gspots_writer) (b:Nat),s.out.Sets.length=b→Sn 0 b s.out.Next→b+cnt n≤400→∀p s',rec n s=some (p,s')→∀fi la no,recR n ⟨s.out.Sets,s.out.Next,fi,la,no⟩=some ⟨s'.out.Sets,s'.out.Next,p.first,p.last,p.none⟩
variable {N M:Nat} {n:Node} {rec:Node→Gspots_writer→Option (Gspots_part × Gspots_writer)} {recR:Node→Gr16_W→Option Gr16_W}
theorem rcat_l (hN:900≤N) (hM:900≤M) (hl:n.kids.length≤9223372036854775807) (hk2:n.kind=2) (hr:∀c∈n.kids,WOk rec c) (hq:∀c∈n.kids,WEq rec recR c) (no:Bool) (fi la:List Int):∀(m' m i:Nat) (sets:List CSet) (nx:List (List Int)) (x:Gspots_part) (e:Nat),i≤n.kids.length→n.kids.length<i+m'→sets.length=e→Sn 0 e nx→Pr 0 e x→e+cnts (n.kids.drop i)≤400→
 ∀p s',spots_writer_write_l2 rec N n m i no fi la sets nx x.first x.last x.none=some (p,s')→r16_write_l2 recR M n m' i sets nx x.first x.last x.none=some ⟨s'.out.Sets,s'.out.Next,p.first,p.last,p.none⟩:=by
 intro m'
 induction m' with
 | zero=>intro m i sets nx x e h1 h2;omega
 | succ m' ih=>
   intro m i sets nx x e h1 h2 hs hn hx he p s' h
   cases m with
   | zero=>rw [spots_writer_write_l2] at h;cases h
   | succ m=>
   rw [spots_writer_write_l2] at h
   rw [r16_write_l2]
   by_cases c:i<n.kids.length
   · have c':cm .lss (i:Int) (ll (rw _ nodeRow n.kids))=true:=by rw [cm_lss,ll_eq];exact decide_eq_true (by omega)
     rw [List.drop_eq_getElem_cons c,cnts_cons] at he
     obtain ⟨q,X1,nx1,r1,r2,r3⟩:=hr _ (List.getElem_mem c) ⟨⟨sets,no,fi,la,nx⟩⟩ e hs hn.1 (by omega)
     have hn1:Sn 0 (e+cnt n.kids[i]) nx1:=sn_cat hn r2.sn (Nat.zero_le _) r2.le r3
     obtain ⟨p1,nx2,s1,s2,-,s4,-⟩:=behind_p (N:=N) (s:=⟨⟨sets++X1,no,fi,la,nx1⟩⟩) (by omega) hN hn1 (pr_mono hx (Nat.le_refl _) r2.le) (pr_mono r2.pr (Nat.zero_le _) (Nat.le_refl _))
     have t1:=hq _ (List.getElem_mem c) ⟨⟨sets,no,fi,la,nx⟩⟩ e hs hn (by omega) _ _ r1 x.first x.last x.none
     have t2:=behind_sim (N:=N) (M:=M) (s:=⟨⟨sets++X1,no,fi,la,nx1⟩⟩) (by omega) hN hM r2.len hn1 (pr_mono hx (Nat.le_refl _) r2.le) (pr_mono r2.pr (Nat.zero_le _) (Nat.le_refl _)) s1 sets nx
     dsimp only at t1 t2
     rw [c',_root_.cond_true,at_in c] at h ⊢
     have k2:cm .eql n.kind 2=true:=by rw [cm_eql];exact decide_eq_true hk2
     simp only [Option.bind_some,r1,s1,incL (show i<9223372036854775807 by omega)] at h
     simp only [Option.bind_some,t1,t2,k2,_root_.cond_true,incL (show i<9223372036854775807 by omega)]
     exact ih m (i+1) (sets++X1) nx2 p1 _ (by omega) (by omega) r2.len s2 s4 (by omega) p s' h
   · have c':cm .lss (i:Int) (ll (rw _ nodeRow n.kids))=false:=by rw [cm_lss,ll_eq];exact decide_eq_false (by omega)
     rw [c',_root_.cond_false] at h ⊢
     cases h
     rfl
theorem ralt_l (hN:900≤N) (hM:900≤M) (hl:n.kids.length≤9223372036854775807) (hk2:¬ n.kind=2) (hr:∀c∈n.kids,WOk rec c) (hq:∀c∈n.kids,WEq rec recR c) (no:Bool) (fi la:List Int):∀(m' m i:Nat) (sets:List CSet) (nx:List (List Int)) (x:Gspots_part) (e:Nat),i≤n.kids.length→n.kids.length<i+m'→sets.length=e→Sn 0 e nx→Pr 0 e x→e+cnts (n.kids.drop i)≤400→
 ∀p s',spots_writer_write_l1 rec N n m i no fi la sets nx x.first x.last x.none=some (p,s')→r16_write_l2 recR M n m' i sets nx x.first x.last x.none=some ⟨s'.out.Sets,s'.out.Next,p.first,p.last,p.none⟩:=by
 intro m'
 induction m' with
 | zero=>intro m i sets nx x e h1 h2;omega
 | succ m' ih=>
   intro m i sets nx x e h1 h2 hs hn hx he p s' h
   cases m with
   | zero=>rw [spots_writer_write_l1] at h;cases h
   | succ m=>
   rw [spots_writer_write_l1] at h
   rw [r16_write_l2]
   by_cases c:i<n.kids.length
   · have c':cm .lss (i:Int) (ll (rw _ nodeRow n.kids))=true:=by rw [cm_lss,ll_eq];exact decide_eq_true (by omega)
     rw [List.drop_eq_getElem_cons c,cnts_cons] at he
     obtain ⟨q,X1,nx1,r1,r2,r3⟩:=hr _ (List.getElem_mem c) ⟨⟨sets,no,fi,la,nx⟩⟩ e hs hn.1 (by omega)
     have hn1:Sn 0 (e+cnt n.kids[i]) nx1:=sn_cat hn r2.sn (Nat.zero_le _) r2.le r3
     have px:=pr_mono hx (Nat.le_refl _) r2.le
     have py:=pr_mono r2.pr (Nat.zero_le _) (Nat.le_refl _)
     obtain ⟨f,f1,f2,-⟩:=merge_rg (N:=N) (by omega) hN px.first py.first
     obtain ⟨l,l1,l2,-⟩:=merge_rg (N:=N) (by omega) hN px.last py.last
     have t1:=hq _ (List.getElem_mem c) ⟨⟨sets,no,fi,la,nx⟩⟩ e hs hn (by omega) _ _ r1 x.first x.last x.none
     have u1:=join_rg (M:=M) (by omega) hN hM px.first py.first f1
     have u2:=join_rg (M:=M) (by omega) hN hM px.last py.last l1
     dsimp only at t1
     rw [c',_root_.cond_true,at_in c] at h ⊢
     have k2:cm .eql n.kind 2=false:=by rw [cm_eql];exact decide_eq_false hk2
     have hlen:(sets++X1).length=e+cnt n.kids[i]:=r2.len
     simp only [Option.bind_some,r1,f1,l1,incL (show i<9223372036854775807 by omega)] at h
     simp only [Option.bind_some,t1,k2,_root_.cond_false,ll_eq,hlen,u1,u2,incL (show i<9223372036854775807 by omega)]
     cases hb:x.none with
     | true=>
       rw [hb] at h
       simp only [_root_.cond_true,Option.bind_some] at h ⊢
       exact ih m (i+1) (sets++X1) nx1 ⟨f,l,true⟩ _ (by omega) (by omega) hlen hn1 ⟨f2,l2⟩ (by omega) p s' h
     | false=>
       rw [hb] at h
       simp only [_root_.cond_false,Option.bind_some] at h ⊢
       exact ih m (i+1) (sets++X1) nx1 ⟨f,l,q.none⟩ _ (by omega) (by omega) hlen hn1 ⟨f2,l2⟩ (by omega) p s' h
   · have c':cm .lss (i:Int) (ll (rw _ nodeRow n.kids))=false:=by rw [cm_lss,ll_eq];exact decide_eq_false (by omega)
     rw [c',_root_.cond_false] at h ⊢
     cases h
     rfl
theorem rrest_p {c:Node} {B:Nat} (hB:900≤B) (hc:∀N,B≤N→WOk (spots_writer_write_g N) c) (hq:∀N M,B≤N→B≤M→WEq (spots_writer_write_g N) (r16_write_g M) c):∀(left N M:Nat),left≤1000→B+left+1≤N→B+left+1≤M→∀(s:Gspots_writer) (b:Nat),s.out.Sets.length=b→Sn 0 b s.out.Next→b+cnt c*left≤400→
 ∀p s',spots_writer_often_1_g N left s c=some (p,s')→∀fi la no,r16_rest_g M c ⟨s.out.Sets,s.out.Next,fi,la,no⟩ left=some ⟨s'.out.Sets,s'.out.Next,p.first,p.last,p.none⟩:=by
 intro left
 induction left with
 | zero=>
   intro N M hle hN hM s b h1 h2 h3 p s' h fi la no
   obtain ⟨N,rfl⟩:∃K,N=K+1:=⟨N-1,by omega⟩
   obtain ⟨M,rfl⟩:∃K,M=K+1:=⟨M-1,by omega⟩
   rw [spots_writer_often_1_g] at h
   rw [r16_rest_g]
   have c0:cm .eql (((0:Nat):Int)) 0=true:=rfl
   have c1:cm .lss (((0:Nat):Int)) 1=true:=rfl
   simp only [c0,_root_.cond_true] at h
   simp only [c1,_root_.cond_true]
   cases h
   rfl
 | succ left ih=>
   intro N M hle hN hM s b h1 h2 h3 p s' h fi la no
   obtain ⟨N,rfl⟩:∃K,N=K+1:=⟨N-1,by omega⟩
   obtain ⟨M,rfl⟩:∃K,M=K+1:=⟨M-1,by omega⟩
   rw [spots_writer_often_1_g] at h
   rw [r16_rest_g]
   have c0:cm .eql (((left+1:Nat):Int)) 0=false:=by rw [cm_eql];exact decide_eq_false (by omega)
   have c2:cm .lss (((left+1:Nat):Int)) 1=false:=by rw [cm_lss];exact decide_eq_false (by omega)
   have c1:ar .sub .i64 (((left+1:Nat):Int)) 1=(left:Int):=by rw [ar_sub (by omega) (by omega)];omega
   rw [Nat.mul_add,Nat.mul_one] at h3
   obtain ⟨q,X1,nx1,r1,r2,r3⟩:=hc N (by omega) s b h1 h2.1 (by omega)
   have hb:(s.out.Sets++X1).length=b+cnt c:=r2.len
   have hn1:Sn 0 (b+cnt c) nx1:=sn_cat h2 r2.sn (Nat.zero_le _) r2.le r3
   obtain ⟨q2,X2,nx2,t1,t2,t3⟩:=rest_p hB hc left N (by omega) (by omega) ⟨⟨s.out.Sets++X1,s.out.None,s.out.First,s.out.Last,nx1⟩⟩ (b+cnt c) hb r2.sn.1 (by omega)
   have hn2:Sn 0 (b+cnt c+cnt c*left) nx2:=sn_cat hn1 t2.sn (Nat.zero_le _) t2.le t3
   have px:=pr_mono r2.pr (Nat.zero_le _) t2.le
   have py:=pr_mono t2.pr (Nat.zero_le _) (Nat.le_refl _)
   obtain ⟨p1,nx3,s1,s2,-,s4,-⟩:=behind_p (N:=N) (s:=⟨⟨s.out.Sets++X1++X2,s.out.None,s.out.First,s.out.Last,nx2⟩⟩) (by omega) (by omega) hn2 px py
   have u1:=hq N M (by omega) (by omega) s b h1 h2 (by omega) _ _ r1 fi la no
   have u2:=ih N M (by omega) (by omega) (by omega) ⟨⟨s.out.Sets++X1,s.out.None,s.out.First,s.out.Last,nx1⟩⟩ (b+cnt c) hb hn1 (by omega) _ _ t1 q.first q.last q.none
   have u3:=behind_sim (N:=N) (M:=M) (s:=⟨⟨s.out.Sets++X1++X2,s.out.None,s.out.First,s.out.Last,nx2⟩⟩) (by omega) (by omega) (by omega) t2.len hn2 px py s1 (s.out.Sets++X1) nx1
   dsimp only at u1 u2 u3
   simp only [c0,c1,_root_.cond_false,r1,t1,s1,Option.bind_some] at h
   simp only [c2,c1,_root_.cond_false,u1,u2,u3,Option.bind_some]
   cases h
   rfl
theorem roften_l {c p1:Node} {B K M lo:Nat} (hB:900≤B) (hK:B+20≤K) (hM:B+20≤M) (hc:∀N,B≤N→WOk (spots_writer_write_g N) c) (hq:∀N M,B≤N→B≤M→WEq (spots_writer_write_g N) (r16_write_g M) c) (hkid:at_ p1.kids 0=some c) (hlo:p1.min=(lo:Int)) (hl16:lo≤16) (hmx:p1.max=-1∨∃hi:Nat,p1.max=(hi:Int)∧lo≤hi∧hi≤16) (no:Bool) (fi la:List Int):
 ∀(m' m i:Nat) (sets:List CSet) (nx:List (List Int)) (x:Gspots_part) (e:Nat),i≤lo→lo<i+m'→sets.length=e→Sn 0 e nx→Pr 0 e x→e+cnt c*(lo-i)+(if p1.max=-1 then cnt c else cnt c*(p1.max.toNat-lo))≤400→
 ∀p s',spots_writer_often_l1 (spots_writer_write_g K) (spots_writer_often_1_g K) K p1 c m i no fi la sets nx x.first x.last x.none=some (p,s')→r16_write_l1 (r16_write_g M) (r16_rest_g M) M p1 m' i sets nx x.first x.last x.none=some ⟨s'.out.Sets,s'.out.Next,p.first,p.last,p.none⟩:=by
 intro m'
 induction m' with
 | zero=>intro m i sets nx x e h1 h2;omega
 | succ m' ih=>
   intro m i sets nx x e h1 h2 hs hn hx he p s' h
   cases m with
   | zero=>rw [spots_writer_often_l1] at h;cases h
   | succ m=>
   rw [spots_writer_often_l1,hlo] at h
   rw [r16_write_l1,hlo,hkid]
   by_cases g:i<lo
   · have c':cm .lss (i:Int) (lo:Int)=true:=by rw [cm_lss];exact decide_eq_true (by omega)
     obtain ⟨d,hd⟩:∃d,lo-i=d+1:=⟨lo-i-1,by omega⟩
     have hd2:lo-(i+1)=d:=by omega
     rw [hd,Nat.mul_add,Nat.mul_one] at he
     obtain ⟨q,X1,nx1,r1,r2,r3⟩:=hc K (by omega) ⟨⟨sets,no,fi,la,nx⟩⟩ e hs hn.1 (by omega)
     have hn1:Sn 0 (e+cnt c) nx1:=sn_cat hn r2.sn (Nat.zero_le _) r2.le r3
     have px:=pr_mono hx (Nat.le_refl _) r2.le
     have py:=pr_mono r2.pr (Nat.zero_le _) (Nat.le_refl _)
     obtain ⟨p2,nx2,s1,s2,-,s4,-⟩:=behind_p (N:=K) (s:=⟨⟨sets++X1,no,fi,la,nx1⟩⟩) (by omega) (by omega) hn1 px py
     have u1:=hq K M (by omega) (by omega) ⟨⟨sets,no,fi,la,nx⟩⟩ e hs hn (by omega) _ _ r1 x.first x.last x.none
     have u3:=behind_sim (N:=K) (M:=M) (s:=⟨⟨sets++X1,no,fi,la,nx1⟩⟩) (by omega) (by omega) (by omega) r2.len hn1 px py s1 sets nx
     dsimp only at u1 u3
     rw [c',_root_.cond_true] at h ⊢
     simp only [Option.bind_some,r1,s1,inc1 (show i≤100000000 by omega)] at h
     simp only [Option.bind_some,u1,u3,inc1 (show i≤100000000 by omega)]
     exact ih m (i+1) (sets++X1) nx2 p2 _ (by omega) (by omega) r2.len s2 s4 (by rw [hd2];omega) p s' h
   · have hi0:i=lo:=by omega
     subst hi0
     have c':cm .lss (i:Int) (i:Int)=false:=by rw [cm_lss];exact decide_eq_false (by omega)
     rw [Nat.sub_self,Nat.mul_zero,Nat.add_zero] at he
     rw [c',_root_.cond_false,cm_eql,cond_dec] at h
     rw [c',_root_.cond_false,cm_neq]
     rcases hmx with hm | ⟨hi,hm,hh1,hh2⟩
     · rw [if_pos hm] at he h
       have cn:(!decide (p1.max=-1))=false:=by rw [hm];rfl
       obtain ⟨q,X1,nx1,r1,r2,r3⟩:=hc K (by omega) ⟨⟨sets,no,fi,la,nx⟩⟩ e hs hn.1 (by omega)
       have hn1:Sn 0 (e+cnt c) nx1:=sn_cat hn r2.sn (Nat.zero_le _) r2.le r3
       have px:=pr_mono hx (Nat.le_refl _) r2.le
       have py:=pr_mono r2.pr (Nat.zero_le _) (Nat.le_refl _)
       obtain ⟨nx2,v1,v2,-,-⟩:=next_p (N:=K) (s:=⟨⟨sets++X1,no,fi,la,nx1⟩⟩) (by omega) (by omega) hn1 py.last py.first
       have py':Pr 0 (e+cnt c) ⟨q.first,q.last,true⟩:=⟨py.first,py.last⟩
       obtain ⟨p2,nx3,s1,s2,-,s4,-⟩:=behind_p (N:=K) (s:=⟨⟨sets++X1,no,fi,la,nx2⟩⟩) (by omega) (by omega) v2 px py'
       have u1:=hq K M (by omega) (by omega) ⟨⟨sets,no,fi,la,nx⟩⟩ e hs hn (by omega) _ _ r1 x.first x.last x.none
       have u2:=link_sim (N:=K) (M:=M) (s:=⟨⟨sets++X1,no,fi,la,nx1⟩⟩) (by omega) (by omega) (by omega) hn1 py.last py.first v1
       have u3:=behind_sim (N:=K) (M:=M) (s:=⟨⟨sets++X1,no,fi,la,nx2⟩⟩) (by omega) (by omega) (by omega) r2.len v2 px py' s1 sets nx
       dsimp only at u1 u2 u3
       simp only [Option.bind_some,r1,v1,s1] at h
       simp only [cn,_root_.cond_false,Option.bind_some,u1,u2,u3]
       cases h
       rfl
     · have hne:¬ p1.max=-1:=by omega
       rw [if_neg hne] at he h
       have cn:(!decide (p1.max=-1))=true:=by simp [hne]
       have e1:ar .sub .i64 p1.max (i:Int)=((hi-i:Nat):Int):=by rw [hm,ar_sub (by omega) (by omega)];omega
       have e2:p1.max.toNat-i=hi-i:=by rw [hm,Int.toNat_natCast]
       rw [e2] at he
       obtain ⟨q,X1,nx1,r1,r2,r3⟩:=rest_p hB hc (hi-i) K (by omega) (by omega) ⟨⟨sets,no,fi,la,nx⟩⟩ e hs hn.1 he
       have hn1:Sn 0 (e+cnt c*(hi-i)) nx1:=sn_cat hn r2.sn (Nat.zero_le _) r2.le r3
       have px:=pr_mono hx (Nat.le_refl _) r2.le
       have py:=pr_mono r2.pr (Nat.zero_le _) (Nat.le_refl _)
       obtain ⟨p2,nx3,s1,s2,-,s4,-⟩:=behind_p (N:=K) (s:=⟨⟨sets++X1,no,fi,la,nx1⟩⟩) (by omega) (by omega) hn1 px py
       have u1:=rrest_p hB hc hq (hi-i) K M (by omega) (by omega) (by omega) ⟨⟨sets,no,fi,la,nx⟩⟩ e hs hn he _ _ r1 x.first x.last x.none
       have u3:=behind_sim (N:=K) (M:=M) (s:=⟨⟨sets++X1,no,fi,la,nx1⟩⟩) (by omega) (by omega) (by omega) r2.len hn1 px py s1 sets nx
       dsimp only at u1 u3
       simp only [Option.bind_some,e1,r1,s1] at h
       simp only [cn,_root_.cond_true,Option.bind_some,e1,u1,u3]
       cases h
       rfl
end Pl
end Go.Proofs.YtbpihhelojjedaaDoor
namespace Go.Proofs.YtbpihhelojjedaaDoor
open Go
open Sh Gn Mx
namespace Pl
theorem cloneI_p {l:List Int} (h:l.length≤1000000):slices_CloneI_g l=some l:=by
 unfold slices_CloneI_g nilq
 cases l with
 | nil=>rfl
 | cons x l=>simp only [Option.bind_some,app_eq (show ([]:List Int).length+(x::l).length≤1000000000 by simp at h ⊢;omega),List.nil_append]
variable {N:Nat} {n:Node} {s:ByteArray}
theorem of_bad (hR:regex_Right_g N n=some false):spots_Of_g N n=some (⟨[],false,[],[],[]⟩,7):=by
 unfold spots_Of_g;rw [hR];rfl
end Pl
end Go.Proofs.YtbpihhelojjedaaDoor
namespace Go.Proofs.YtbpihhelojjedaaDoor
open Go
open Sh Gn
namespace Pl
theorem size_g:∀(m:Nat) (n:Node),n.size≤m→Lens n→∀N,m+2≤N→∃x,r13_Size_g N n=some x:=by
 intro m
 induction m with
 | zero=>intro n h;have:=n.size_pos;omega
 | succ m ih=>
   intro n h hl N hN
   obtain ⟨N,rfl⟩:∃K,N=K+1:=⟨N-1,by omega⟩
   have hkl:=n.kids_le
   have hlen:=Lens_len hl
   rw [r13_Size_g]
   have key:∀(f i:Nat) (S D:Int),i≤n.kids.length→n.kids.length<i+f→∃x,r13_Size_l1 (r13_Size_g N) n f S D (i:Int)=some x:=by
    intro f
    induction f with
    | zero=>intro i S D h1 h2;omega
    | succ f ihf=>
      intro i S D h1 h2
      rw [r13_Size_l1]
      by_cases c:i<n.kids.length
      · have c':cm .lss (i:Int) (ll (rw _ nodeRow n.kids))=true:=by rw [cm_lss,ll_eq];exact decide_eq_true (by omega)
        have hc:=kid_le (List.getElem_mem c)
        obtain ⟨x,e1⟩:=ih n.kids[i] (by omega) (Lens_kid hl (List.getElem_mem c)) N (by omega)
        rw [c',_root_.cond_true,at_in c,Option.bind_some,e1,Option.bind_some,incL (by omega),cm_gtr,cond_dec]
        split
        · simp only [Option.bind_some]
          exact ihf (i+1) _ _ (by omega) (by omega)
        · simp only [Option.bind_some]
          exact ihf (i+1) _ _ (by omega) (by omega)
      · have c':cm .lss (i:Int) (ll (rw _ nodeRow n.kids))=false:=by rw [cm_lss,ll_eq];exact decide_eq_false (by omega)
        rw [c',_root_.cond_false]
        exact ⟨_,rfl⟩
   exact key N 0 1 0 (by omega) (by omega)
theorem great_p {n:Node} {N:Nat} (h:Lens n) (hN:n.size+2≤N):∃g,l13_Great_g N n=some g:=by
 obtain ⟨x,e⟩:=size_g n.size n (Nat.le_refl _) h N hN
 unfold l13_Great_g
 rw [e,Option.bind_some,cm_gtr,cond_dec]
 split
 · exact ⟨true,rfl⟩
 · exact ⟨_,rfl⟩
end Pl
end Go.Proofs.YtbpihhelojjedaaDoor
namespace Go.Proofs.YtbpihhelojjedaaDoor
open Go Go.Lib
namespace Qu
def runeN (n b0 b1 b2 b3:Nat):Nat:=
 if b0<128 then 1
 else if 194≤b0∧b0≤223∧1<n∧128≤b1∧b1≤191 then 2
 else if 224≤b0∧b0≤239∧(2<n∧128≤b1∧b1≤191∧128≤b2∧b2≤191)∧(b0≠224∨160≤b1)∧(b0≠237∨b1<160) then 3
 else if 240≤b0∧b0≤244∧(3<n∧128≤b1∧b1≤191∧128≤b2∧b2≤191∧128≤b3∧b3≤191)∧(b0≠240∨144≤b1)∧(b0≠244∨b1<144) then 4
 else 0
def bt (l:List UInt8) (i:Nat):Nat:=match l[i]? with | some b=>b.toNat | none=>0
def rune (l:List UInt8) (i:Nat):Nat:=runeN (l.length-i) (bt l i) (bt l (i+1)) (bt l (i+2)) (bt l (i+3))
def unit (l:List UInt8) (i:Nat):Nat:=if rune l i=0 then 1 else rune l i
def safe (l:List UInt8) (i:Nat):Bool:=decide (0<rune l i)&&decide (32≤bt l i)&&decide (bt l i≠127)
def hexd (n:Nat):UInt8:=if n<10 then UInt8.ofNat (48+n) else UInt8.ofNat (87+n)
def enc (l:List UInt8) (i:Nat):List UInt8:=
 if bt l i=34∨bt l i=92 then [92,UInt8.ofNat (bt l i)] else if safe l i=true then (l.drop i).take (unit l i) else [92,120,hexd (bt l i / 16),hexd (bt l i % 16)]
def encs (l:List UInt8):Nat→Nat→List UInt8
 | 0,_=>[]
 | f+1,i=>if i<l.length then enc l i++encs l f (i+unit l i) else []
def rest (l:List UInt8) (i:Nat):List UInt8:=encs l (l.length+1) i
def dig (b:Nat):Nat:=if 48≤b∧b≤57 then b-48 else if 97≤b∧b≤102 then b-87 else 16
inductive Esc where
 | ok (b:Nat) (n:Nat)
 | bad (e:Nat)
 deriving DecidableEq
def esc (l:List UInt8) (i:Nat):Esc:=
 if l.length<i+2 then .bad 1
 else if bt l (i+1)=34∨bt l (i+1)=92 then .ok (bt l (i+1)) 2
 else if bt l (i+1)≠120 then .bad 2
 else if l.length<i+3 then .bad 1
 else if dig (bt l (i+2))=16 then .bad 2
 else if l.length<i+4 then .bad 1
 else if dig (bt l (i+3))=16 then .bad 2
 else .ok (16*dig (bt l (i+2))+dig (bt l (i+3))) 4
inductive Got where
 | ok (t:List UInt8) (p:Nat)
 | bad (e:Nat) (p:Nat)
inductive Un where
 | ok (t:List UInt8) (n:Nat)
 | bad (e:Nat) (p:Nat)
def un (l:List UInt8) (i:Nat):Un:=
 if bt l i=92 then (match esc l i with | .ok b n=>.ok [UInt8.ofNat b] n | .bad e=>.bad e (if e=1 then l.length else i))
 else if safe l i=true then .ok ((l.drop i).take (unit l i)) (unit l i)
 else .bad 2 i
def body (l:List UInt8):Nat→List UInt8→Nat→Got
 | 0,_,_=>.bad 1 l.length
 | f +1,out,i=>
   if i<l.length then
    if bt l i=34 then .ok out (i+1)
    else match un l i with
     | .ok t n=>body l f (out++t) (i+n)
     | .bad e p=>.bad e p
   else .bad 1 l.length
def go (l:List UInt8) (out:List UInt8) (i:Nat):Got:=body l (l.length+1) out i
end Qu
end Go.Proofs.YtbpihhelojjedaaDoor
namespace Go.Proofs.YtbpihhelojjedaaDoor
open Go
open Sh Gn
namespace Pl
theorem bind_self {α:Type} {o:Option α}:(o.bind fun x=>some x)=o:=by cases o<;>rfl
theorem ite_and {p q:Prop} [Decidable p] [Decidable q]:(if p then some (decide q) else some false)=some (decide (p∧q)):=by by_cases p<;>by_cases q<;>simp_all
theorem ite_or {p q:Prop} [Decidable p] [Decidable q]:(if p then some true else some (decide q))=some (decide (p∨q)):=by by_cases p<;>by_cases q<;>simp_all
theorem ite_gen {p q r:Prop} [Decidable p] [Decidable q] [Decidable r]:(if p then some (decide q) else some (decide r))=some (decide ((p∧q)∨(¬ p∧r))):=by by_cases p<;>by_cases q<;>by_cases r<;>simp_all
theorem not_dec {p:Prop} [Decidable p]:(!decide p)=decide (¬ p):=by by_cases p<;>simp_all
end Pl
end Go.Proofs.YtbpihhelojjedaaDoor
namespace Go.Proofs.YtbpihhelojjedaaDoor
open Go
open Sh Gn
namespace Pl
theorem setz_p (S:CSet):conj [cm .eql (S.a.toNat:Int) 0,cm .eql (S.b.toNat:Int) 0,cm .eql (S.c.toNat:Int) 0,cm .eql (S.d.toNat:Int) 0]=decide (S=CSet.empty):=by
 have h:∀x:BitVec 64,((x.toNat:Int)=0)=(x=0):=fun x=>propext ⟨fun h=>by
  apply BitVec.eq_of_toNat_eq
  have:x.toNat=0:=by omega
  rw [this];rfl,fun h=>by rw [h];rfl⟩
 rw [cm_eql,cm_eql,cm_eql,cm_eql]
 simp only [h]
 cases S
 rw [Bool.eq_iff_iff]
 simp [conj,CSet.empty]
theorem times_p (lo hi:Int):regex_times_g lo hi=some (Rx.timesB lo hi):=by
 unfold regex_times_g Rx.timesB mx
 simp only [cm_lss,cm_gtr,cm_eql,cm_geq,cm_leq,cond_dec,ite_or,ite_and,Option.bind_some]
 by_cases c:lo<0∨16<lo
 · rw [if_pos c]
   have:lo<0∨lo>16:=c
   congr 1
   rcases this with h | h<;>simp [h]
 · rw [if_neg c]
   have e:∃M:Int,(if (1:Int)>lo then (1:Int) else lo)=M∧(lo=0∧M=1∨lo≠0∧M=lo):=by
    refine ⟨_,rfl,?_⟩
    split<;>omega
   obtain ⟨M,e,hM⟩:=e
   rw [e]
   congr 1
   have c1:¬ lo<0:=fun h=>c (.inl h)
   have c2:¬ lo>16:=fun h=>c (.inr h)
   simp only [c1,c2,decide_false,Bool.false_or]
   by_cases h:(hi>16∨hi< -1)∨hi=0
   · have hd:(decide (hi>16)||decide (hi< -1)||hi==0)=true:=by simpa using h
     rw [hd,if_pos rfl]
     exact decide_eq_false (by omega)
   · have hd:(decide (hi>16)||decide (hi< -1)||hi==0)=false:=by
      rw [Bool.eq_false_iff];intro h';exact h (by simpa using h')
     rw [hd,if_neg (by simp),Bool.eq_iff_iff]
     simp only [Bool.or_eq_true,beq_iff_eq,decide_eq_true_eq]
     omega
theorem at_get {α:Type} {l:List α} {k:Nat} (h:k<l.length):at_ l (k:Int)=some l[k]:=by
 unfold at_
 rw [if_pos (by omega),Int.toNat_natCast,List.getElem?_eq_getElem h]
theorem mkids_p (rec:Node→Option Bool) (n:Node) (hl:n.kids.length≤9223372036854775807) (hr:∀c∈n.kids,rec c=some (Rx.right c)):∀(m k:Nat),k≤n.kids.length→n.kids.length<k+m→regex_Right_l1 rec n m k=some (Rx.topB n.kind n.set n.kids.length n.min n.max&&Rx.rights n.kind (n.kids.drop k)):=by
 intro m
 induction m with
 | zero=>intro k h1 h2;omega
 | succ m ih=>
   intro k h1 h2
   rw [regex_Right_l1]
   simp only [setz_p]
   simp only [cm_lss,cm_eql,cm_neq,cm_gtr,cond_not,cond_dec,ll_eq,setz_p,not_dec,times_p,ite_or,ite_and,ite_gen,Option.bind_some,bind_self]
   by_cases c:k<n.kids.length
   · rw [if_pos (by omega),at_get c,incL (by omega),Option.bind_some,hr _ (List.getElem_mem c),Option.bind_some,ih (k+1) (by omega) (by omega)]
     rw [List.drop_eq_getElem_cons c,Rx.rights]
     generalize n.kids[k]=y
     cases Rx.right y with
     | false=>simp
     | true=>
       have e1:(y.kind==n.kind)=decide (y.kind=n.kind):=Bool.beq_eq_decide_eq _ _
       have e2:(n.kind != 4)= !decide (n.kind=4):=by rw [←Bool.beq_eq_decide_eq];rfl
       rw [e1,e2]
       by_cases g:y.kind=n.kind<;>by_cases g4:n.kind=4<;>simp [g,g4]
   · rw [if_neg (by omega),List.drop_of_length_le (by omega),Rx.rights,Bool.and_true]
     obtain ⟨kind,S,kids,mn,mx⟩:=n
     simp only [Node.kind,Node.set,Node.kids,Node.min,Node.max] at *
     unfold Rx.topB
     generalize kids.length=L
     have q0:((L:Int)=0)=(L=0):=propext (by omega)
     have q1:((L:Int)=1)=(L=1):=propext (by omega)
     have q2:((1:Int)<L)=(1<L):=propext (by omega)
     simp only [q0,q1,q2]
     generalize Rx.timesB mn mx=T
     by_cases k1:kind=1
     · subst k1
       by_cases a1:mn=0<;>by_cases a2:mx=0<;>by_cases a3:L=0<;>simp [a1,a2,a3]
     by_cases k2:kind=2
     · subst k2
       by_cases a0:S=CSet.empty<;>by_cases a1:mn=0<;>by_cases a2:mx=0<;>by_cases a3:L=1<;>simp [a0,a1,a2,a3]
     by_cases k3:kind=3
     · subst k3
       by_cases a0:S=CSet.empty<;>by_cases a1:mn=0<;>by_cases a2:mx=0<;>by_cases a3:1<L<;>simp [a0,a1,a2,a3]
     by_cases k4:kind=4
     · subst k4
       by_cases a0:S=CSet.empty<;>by_cases a3:L=1<;>cases T<;>simp [a0,a3]
     by_cases a0:S=CSet.empty<;>by_cases a1:mn=0<;>by_cases a2:mx=0<;>simp [k1,k2,k3,k4,a0,a1,a2]
theorem kid_size {n c:Node} (h:c∈n.kids):c.size+1≤n.size:=by
 rw [Node.size_eq n]
 have key:∀l:List Node,c∈l→c.size≤Node.sizes l:=by
  intro l
  induction l with
  | nil=>intro h;cases h
  | cons a r ih=>
    intro h
    rw [Node.sizes_cons]
    rcases List.mem_cons.1 h with rfl | h
    · omega
    · have:=ih h;omega
 have:=key _ h
 omega
theorem xright_p:∀(m:Nat) (n:Node),n.size≤m→Lens n→∀N,m+2000≤N→regex_Right_g N n=some (Rx.right n):=by
 intro m
 induction m with
 | zero=>intro n h;have:=n.size_pos;omega
 | succ m ih=>
   intro n h hm N hN
   obtain ⟨N,rfl⟩:∃M,N=M+1:=⟨N-1,by omega⟩
   have hk:=n.kids_le
   have hlen:=Lens_len hm
   rw [regex_Right_g]
   have:=mkids_p (regex_Right_g N) n (by omega) (fun c hc=>ih c (by have:=kid_size hc;omega) (Lens_kid hm hc) N (by omega)) N 0 (by omega) (by omega)
   rw [Rx.right_eq]
   exact this
end Pl
end Go.Proofs.YtbpihhelojjedaaDoor
