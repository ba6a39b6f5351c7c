/- Texts that the proof leans on. -/
import Derived.Test.YtbpihhelojjedaaDoorK323
set_option linter.unusedVariables false
set_option linter.unusedSimpArgs false
set_option maxRecDepth 100000
set_option maxHeartbeats 4000000
namespace Go.Proofs.YtbpihhelojjedaaDoor
open Go
open Sh Gn
namespace Pl
theorem concat_p {a b:List Int} (M:Nat) (h:a.length+b.length≤1000000):slices_ConcatI_g (M+3) [a,b]=some (a++b):=by
 have e1:ar .add .i64 (0:Int) 1=1:=by rw [ar_add (by decide) (by decide)];rfl
 have e2:ar .add .i64 (1:Int) 1=2:=by rw [ar_add (by decide) (by decide)];rfl
 have f1:ar .add .i64 (0:Int) (a.length:Int)=a.length:=by rw [ar_add (by omega) (by omega)];omega
 have f2:ar .add .i64 (a.length:Int) (b.length:Int)=((a.length+b.length:Nat):Int):=by rw [ar_add (by omega) (by omega)];omega
 have a0:at_ [a,b] 0=some a:=rfl
 have a1:at_ [a,b] 1=some b:=rfl
 have c0:cm .lss 0 (([a,b]:List (List Int)).length:Int)=true:=rfl
 have c1:cm .lss 1 (([a,b]:List (List Int)).length:Int)=true:=rfl
 have c2:cm .lss 2 (([a,b]:List (List Int)).length:Int)=false:=rfl
 have g1:cm .lss (a.length:Int) 0=false:=by rw [cm_lss];exact decide_eq_false (by omega)
 have g2:cm .lss ((a.length+b.length:Nat):Int) 0=false:=by rw [cm_lss];exact decide_eq_false (by omega)
 have g3:growB ((a.length+b.length:Nat):Int)=true:=by unfold growB;simp only [Bool.and_eq_true,decide_eq_true_eq];omega
 unfold slices_ConcatI_g
 simp only [slices_ConcatI_l1,slices_ConcatI_l2,c0,c1,c2,a0,a1,e1,e2,ll_eq,f1,f2,g1,g2,g3,Option.bind_some,_root_.cond_true,_root_.cond_false,app_eq (show ([]:List Int).length+a.length≤1000000000 by simp;omega),List.nil_append,app_eq (show a.length+b.length≤1000000000 by omega)]
theorem gl3_eq (v:Int):∀(m:Nat) (i j:Int) (l:List Int),spots_merge_l3 v m i j l=Soo.gl3 (cI .i64) 0 (fun a b=>cm .neq a b) v m i j l:=by
 intro m;induction m with
 | zero=>intros;rfl
 | succ m ih=>intro i j l;rw [spots_merge_l3,Soo.gl3];simp only [ih]
theorem gl2_eq (N:Nat) (l:List Int):∀(m:Nat) (i:Int),spots_merge_l2 N l m i=Soo.gl2 (cI .i64) 0 (fun a b=>cm .neq a b) (fun a b=>cm .eql a b) N l m i:=by
 intro m;induction m with
 | zero=>intros;rfl
 | succ m ih=>
   intro i;rw [spots_merge_l2,Soo.gl2];simp only [ih,gl3_eq]
theorem merge_p {a b:List Int} {N:Nat} (hN:a.length+b.length+3≤N) (h:a.length+b.length≤1000000):∃r,spots_merge_g N a b=some r∧r.Pairwise (·<·)∧(∀x,x∈r↔x∈a∨x∈b)∧r.length≤a.length+b.length:=by
 obtain ⟨M,rfl⟩:∃M,N=M+3:=⟨N-3,by omega⟩
 unfold spots_merge_g
 rw [concat_p M h]
 have hs:sortI_g (a++b)=some (isortI (a++b)):=by unfold sortI_g sortK_g;rw [if_pos (by rw [List.length_append];omega)]
 have hl:(isortI (a++b)).length=a.length+b.length:=by rw [sortI_len,List.length_append]
 have hm:∀x,x∈isortI (a++b)↔x∈a∨x∈b:=fun x=>by rw [(isortI_perm _).mem_iff,List.mem_append]
 have hr:=isortI_rise (a++b)
 rw [Option.bind_some,hs,Option.bind_some]
 generalize isortI (a++b)=l at hl hm hr
 rw [cm_lss,ll_eq,cond_dec]
 by_cases c:(l.length:Int)<2
 · rw [if_pos c]
   refine ⟨l,rfl,?_,hm,by omega⟩
   match l,c with
   | [],_=>exact List.Pairwise.nil
   | [x],_=>exact List.pairwise_singleton _ _
   | x::y::r,c=>simp at c;omega
 · rw [if_neg c,gl2_eq]
   have hs2:l.Pairwise fun a b=>a=b∨a<b:=hr.imp fun {a b} h=>by omega
   have e1:l.take 1=[l[0]'(by omega)]:=by
    match l,c with
    | x::r,_=>rfl
    | [],c=>simp at c
   obtain ⟨r,h1,h2,h3,h4⟩:=Soo.gl2_ok (c:=cI .i64) (z:=0) (ne:=fun a b=>cm .neq a b) (eq:=fun a b=>cm .eql a b) (lt:=(·<·)) (fun a b=>by rw [cm_neq];simp) (fun a b=>by rw [cm_eql];simp) (fun a b d h k=>Int.lt_trans h k) hs2 (by omega) (N:=M+3) (by omega) (M+3) 1 (by omega) (by omega) (by rw [e1];exact List.pairwise_singleton _ _) (by omega)
   exact ⟨r,h1,h2,fun x=>(h3 x).trans (hm x),by omega⟩
def Rg (b e:Nat) (l:List Int):Prop:=l.Pairwise (·<·)∧∀x∈l,(b:Int)≤x∧x<(e:Int)
theorem rg_len {b e:Nat}:∀{l:List Int},Rg b e l→l.length≤e-b:=fun {l} h=>by
 have key:∀(l:List Int) (a:Int),(∀x∈l,a≤x∧x<(e:Int))→l.Pairwise (·<·)→(l.length:Int)≤max 0 (e-a):=by
  intro l
  induction l with
  | nil=>intro a _ _;simp;omega
  | cons x l ih=>
    intro a h1 h2
    have hx:=h1 x List.mem_cons_self
    have h3:=List.pairwise_cons.1 h2
    have:=ih (x+1) (fun y hy=>⟨by have:=h3.1 y hy;omega,(h1 y (List.mem_cons_of_mem _ hy)).2⟩) h3.2
    rw [List.length_cons]
    omega
 have:=key l b (fun x hx=>h.2 x hx) h.1
 omega
theorem rg_mono {b e b' e':Nat} {l:List Int} (h:Rg b e l) (hb:b'≤b) (he:e≤e'):Rg b' e' l:=⟨h.1,fun x hx=>by have:=h.2 x hx;omega⟩
theorem rg_nil {b e:Nat}:Rg b e []:=⟨List.Pairwise.nil,fun x h=>by cases h⟩
theorem merge_rg {b e N:Nat} {x y:List Int} (he:e≤400) (hN:900≤N) (hx:Rg b e x) (hy:Rg b e y):∃r,spots_merge_g N x y=some r∧Rg b e r∧∀z,z∈r↔z∈x∨z∈y:=by
 have h1:=rg_len hx
 have h2:=rg_len hy
 obtain ⟨r,h3,h4,h5,h6⟩:=merge_p (a:=x) (b:=y) (N:=N) (by omega) (by omega)
 exact ⟨r,h3,⟨h4,fun z hz=>((h5 z).1 hz).elim (hx.2 z) (hy.2 z)⟩,h5⟩
def Ed (nx:List (List Int)) (k j:Nat):Prop:=∃l,nx[k]?=some l∧(j:Int)∈l
def Hs (st:List CSet) (k:Nat) (c:UInt8):Prop:=∃S,st[k]?=some S∧S.has c.toNat=true
def pt (p:Gspots_part):Gk.Pt:=⟨fun k=>(k:Int)∈p.first,fun k=>(k:Int)∈p.last,p.none=true⟩
def Sn (b e:Nat) (nx:List (List Int)):Prop:=nx.length=e∧∀(k:Nat) l,b≤k→nx[k]?=some l→Rg b e l
theorem next_l {b e N:Nat} (he:e≤400) (hN:900≤N) {s:Gspots_writer} {of sp:List Int} (ho:Rg b e of) (hp:Rg b e sp):∀(m i:Nat) (nx:List (List Int)),i≤of.length→of.length<i+m→Sn b e nx→
 ∃nx',spots_writer_next_l1 N of sp s m i nx=some ⟨⟨s.out.Sets,s.out.None,s.out.First,s.out.Last,nx'⟩⟩∧Sn b e nx'∧(∀k,k<b→nx'[k]?=nx[k]?)∧∀k j:Nat,Ed nx' k j↔Ed nx k j∨((k:Int)∈of.drop i∧(j:Int)∈sp):=by
 intro m
 induction m with
 | zero=>intro i nx h1 h2;omega
 | succ m ih=>
   intro i nx h1 h2 hn
   have hol:=rg_len ho
   rw [spots_writer_next_l1]
   by_cases c:i<of.length
   · have c':cm .lss (i:Int) (ll (rw _ (cI .i64) of))=true:=by rw [cm_lss,ll_eq];exact decide_eq_true (by omega)
     have hx:=ho.2 _ (List.getElem_mem c)
     obtain ⟨k0,hk0⟩:=Int.eq_ofNat_of_zero_le (show 0≤of[i] by omega)
     have hk:k0<nx.length:=by rw [hn.1];omega
     have e1:at_ nx of[i]=some nx[k0]:=by rw [hk0,at_in hk]
     have hr:=hn.2 k0 _ (by omega) (List.getElem?_eq_getElem hk)
     obtain ⟨r,r1,r2,r3⟩:=merge_rg he hN hr hp
     rw [c',_root_.cond_true,at_in c]
     simp only [Option.bind_some,e1,r1,put,inc1 (show i≤100000000 by omega)]
     have e2:(of[i]).toNat=k0:=by omega
     rw [e2]
     obtain ⟨nx',q1,q2,q3,q4⟩:=ih (i+1) (nx.set k0 r) (by omega) (by omega) ⟨by rw [List.length_set];exact hn.1,fun k l hk2 hl=>by
      by_cases e:k0=k
      · subst e;rw [List.getElem?_set_self hk] at hl;cases hl;exact r2
      · rw [List.getElem?_set_ne e] at hl;exact hn.2 k l hk2 hl⟩
     refine ⟨nx',q1,q2,fun k hk2=>by rw [q3 k hk2,List.getElem?_set_ne (by omega)],fun k j=>?_⟩
     rw [q4 k j,List.drop_eq_getElem_cons c]
     by_cases e:k0=k
     · subst e
       have a1:Ed (nx.set k0 r) k0 j↔(j:Int)∈r:=⟨fun ⟨l,h1,h2⟩=>by rw [List.getElem?_set_self hk] at h1;cases h1;exact h2,fun h=>⟨r,List.getElem?_set_self hk,h⟩⟩
       have a2:Ed nx k0 j↔(j:Int)∈nx[k0]:=⟨fun ⟨l,h1,h2⟩=>by rw [List.getElem?_eq_getElem hk] at h1;cases h1;exact h2,fun h=>⟨_,List.getElem?_eq_getElem hk,h⟩⟩
       rw [a1,a2,r3,List.mem_cons]
       have a3:((k0:Nat):Int)=of[i]:=hk0.symm
       constructor
       · rintro ((h | h) | ⟨h,h'⟩)
         · exact .inl h
         · exact .inr ⟨.inl a3,h⟩
         · exact .inr ⟨.inr h,h'⟩
       · rintro (h | ⟨-,h⟩)
         · exact .inl (.inl h)
         · exact .inl (.inr h)
     · have a1:Ed (nx.set k0 r) k j↔Ed nx k j:=by unfold Ed;rw [List.getElem?_set_ne e]
       rw [a1,List.mem_cons]
       refine or_congr Iff.rfl (and_congr_left fun _=>⟨.inr,fun h=>h.resolve_left (by omega)⟩)
   · have c':cm .lss (i:Int) (ll (rw _ (cI .i64) of))=false:=by rw [cm_lss,ll_eq];exact decide_eq_false (by omega)
     rw [c',_root_.cond_false,List.drop_of_length_le (by omega)]
     exact ⟨nx,rfl,hn,fun _ _=>rfl,fun k j=>⟨.inl,fun h=>h.resolve_right fun h=>by cases h.1⟩⟩
theorem next_p {b e N:Nat} (he:e≤400) (hN:900≤N) {s:Gspots_writer} {of sp:List Int} (hn:Sn b e s.out.Next) (ho:Rg b e of) (hp:Rg b e sp):
 ∃nx',spots_writer_next_g N of sp s=some ⟨⟨s.out.Sets,s.out.None,s.out.First,s.out.Last,nx'⟩⟩∧Sn b e nx'∧(∀k,k<b→nx'[k]?=s.out.Next[k]?)∧∀k j:Nat,Ed nx' k j↔Ed s.out.Next k j∨((k:Int)∈of∧(j:Int)∈sp):=by
 have hol:=rg_len ho
 exact next_l he hN ho hp N 0 s.out.Next (by omega) (by omega) hn
structure Pr (b e:Nat) (p:Gspots_part):Prop where
 first:Rg b e p.first
 last:Rg b e p.last
theorem behind_p {b e N:Nat} (he:e≤400) (hN:900≤N) {s:Gspots_writer} {x y:Gspots_part} (hn:Sn b e s.out.Next) (hx:Pr b e x) (hy:Pr b e y):
 ∃ p nx',spots_writer_behind_g N x y s=some (p,⟨⟨s.out.Sets,s.out.None,s.out.First,s.out.Last,nx'⟩⟩)∧Sn b e nx'∧(∀k,k<b→nx'[k]?=s.out.Next[k]?)∧Pr b e p∧(∀k j,Ed nx' k j↔Gk.link (Ed s.out.Next) (pt x) (pt y) k j)∧
   (∀k,(pt p).fi k↔(Gk.behind (pt x) (pt y)).fi k)∧(∀k,(pt p).la k↔(Gk.behind (pt x) (pt y)).la k)∧((pt p).no↔(Gk.behind (pt x) (pt y)).no):=by
 obtain ⟨nx',q1,q2,q3,q4⟩:=next_p he hN hn hx.last hy.first
 obtain ⟨f,f1,f2,f3⟩:=merge_rg he hN hx.first hy.first
 obtain ⟨l,l1,l2,l3⟩:=merge_rg he hN hx.last hy.last
 unfold spots_writer_behind_g
 rw [q1,f1,l1]
 obtain ⟨xf,xl,xn⟩:=x
 obtain ⟨yf,yl,yn⟩:=y
 cases xn<;>cases yn<;>simp only [Option.bind_some,_root_.cond_true,_root_.cond_false]
 · exact ⟨_,nx',rfl,q2,q3,⟨hx.first,hy.last⟩,q4,fun k=>by simp [pt,Gk.behind],fun k=>by simp [pt,Gk.behind],by simp [pt,Gk.behind]⟩
 · exact ⟨_,nx',rfl,q2,q3,⟨hx.first,l2⟩,q4,fun k=>by simp [pt,Gk.behind],fun k=>by simp [pt,Gk.behind,l3,or_comm],by simp [pt,Gk.behind]⟩
 · exact ⟨_,nx',rfl,q2,q3,⟨f2,hy.last⟩,q4,fun k=>by simp [pt,Gk.behind,f3],fun k=>by simp [pt,Gk.behind],by simp [pt,Gk.behind]⟩
 · exact ⟨_,nx',rfl,q2,q3,⟨f2,l2⟩,q4,fun k=>by simp [pt,Gk.behind,f3],fun k=>by simp [pt,Gk.behind,l3,or_comm],by simp [pt,Gk.behind]⟩
end Pl
end Go.Proofs.YtbpihhelojjedaaDoor
namespace Go.Proofs.YtbpihhelojjedaaDoor
open Go
open Sh Gn Mx
namespace Pl
structure Wr (b e:Nat) (sets:List CSet) (nx:List (List Int)) (p:Gspots_part) (A:Lg):Prop where
 len:sets.length=e
 le:b≤e
 sn:Sn b e nx
 pr:Pr b e p
 lg:∀w,Gk.L (Ed nx) (Hs sets) (pt p) w↔A w
def Iv (b e:Nat):Nat→Prop:=fun k=>b≤k∧k<e
theorem sn_clo {b e:Nat} {nx:List (List Int)} (h:Sn b e nx):Gk.Clo (Ed nx) (Iv b e):=fun k j hk ⟨l,h1,h2⟩=>by
 have:=(h.2 k l hk.1 h1).2 _ h2
 exact ⟨by omega,by omega⟩
theorem pr_in {b e:Nat} {p:Gspots_part} (h:Pr b e p):Gk.In (Iv b e) (pt p):=⟨fun k hk=>by have:=h.first.2 _ hk;exact ⟨by omega,by omega⟩,fun k hk=>by have:=h.last.2 _ hk;exact ⟨by omega,by omega⟩⟩
theorem ed_same {nx nx':List (List Int)} {k:Nat} (h:nx'[k]?=nx[k]?) (j:Nat):Ed nx k j↔Ed nx' k j:=by unfold Ed;rw [h]
theorem hs_same {st st':List CSet} {k:Nat} (h:st'[k]?=st[k]?) (c:UInt8):Hs st k c↔Hs st' k c:=by unfold Hs;rw [h]
theorem Wr.more {b m e:Nat} {sets sets':List CSet} {nx nx':List (List Int)} {p:Gspots_part} {A:Lg} (h:Wr b m sets nx p A) (hs:∀k,k<m→sets'[k]?=sets[k]?) (hn:∀k,k<m→nx'[k]?=nx[k]?) (w:List UInt8):Gk.L (Ed nx') (Hs sets') (pt p) w↔A w:=by
 rw [←h.lg w]
 exact (Gk.L_congr (sn_clo h.sn) (pr_in h.pr) (fun k j hk=>ed_same (hn k hk.2) j) (fun k c hk=>hs_same (hs k hk.2) c) w).symm
theorem sn_cat {b m e:Nat} {nx nx':List (List Int)} (h1:Sn b m nx) (h2:Sn m e nx') (hb:b≤m) (hm:m≤e) (hn:∀k,k<m→nx'[k]?=nx[k]?):Sn b e nx':=⟨h2.1,fun k l hk hl=>by
 by_cases c:k<m
 · rw [hn k c] at hl;exact rg_mono (h1.2 k l hk hl) (Nat.le_refl _) hm
 · exact rg_mono (h2.2 k l (by omega) hl) hb (Nat.le_refl _)⟩
theorem pr_mono {b e b' e':Nat} {p:Gspots_part} (h:Pr b e p) (hb:b'≤b) (he:e≤e'):Pr b' e' p:=⟨rg_mono h.first hb he,rg_mono h.last hb he⟩
theorem iv_apart {b m e:Nat} (k:Nat):Iv b m k→¬ Iv m e k:=fun h g=>by have:=h.2;have:=g.1;omega
theorem clo_sub {b m e:Nat} {nx nx':List (List Int)} (h1:Sn b m nx) (hn:∀k,k<m→nx'[k]?=nx[k]?):Gk.Clo (Ed nx') (Iv b m):=fun k j hk he=>sn_clo h1 k j hk ((ed_same (hn k hk.2) j).2 he)
theorem Wr.behind {b m e N:Nat} {s:Gspots_writer} {sets:List CSet} {nx:List (List Int)} {x y:Gspots_part} {A B:Lg} (he:e≤400) (hN:900≤N) (hx:Wr b m sets nx x A) (hy:Wr m e s.out.Sets s.out.Next y B) (hs:∀k,k<m→s.out.Sets[k]?=sets[k]?) (hn:∀k,k<m→s.out.Next[k]?=nx[k]?):
 ∃p nx',spots_writer_behind_g N x y s=some (p,⟨⟨s.out.Sets,s.out.None,s.out.First,s.out.Last,nx'⟩⟩)∧Wr b e s.out.Sets nx' p (lcat A B)∧∀k,k<b→nx'[k]?=s.out.Next[k]?:=by
 obtain ⟨p,nx',q1,q2,q3,q4,q5,q6,q7,q8⟩:=behind_p he hN (sn_cat hx.sn hy.sn hx.le hy.le hn) (pr_mono hx.pr (Nat.le_refl _) hy.le) (pr_mono hy.pr hx.le (Nat.le_refl _))
 refine ⟨p,nx',q1,⟨hy.len,Nat.le_trans hx.le hy.le,q2,q4,fun w=>?_⟩,q3⟩
 have e1:Ed nx'=Gk.link (Ed s.out.Next) (pt x) (pt y):=funext fun k=>funext fun j=>propext (q5 k j)
 have e2:pt p=Gk.behind (pt x) (pt y):=by
  have a1:(pt p).fi=(Gk.behind (pt x) (pt y)).fi:=funext fun k=>propext (q6 k)
  have a2:(pt p).la=(Gk.behind (pt x) (pt y)).la:=funext fun k=>propext (q7 k)
  have a3:(pt p).no=(Gk.behind (pt x) (pt y)).no:=propext q8
  cases h:pt p with
  | mk f l n=>rw [h] at a1 a2 a3;dsimp only at a1 a2 a3;rw [a1,a2,a3]
 rw [e1,e2,Gk.L_behind (I:=Iv b m) (J:=Iv m e) (clo_sub (e:=e) hx.sn hn) (sn_clo hy.sn) iv_apart (pr_in hx.pr) (pr_in hy.pr)]
 have f1:Gk.L (Ed s.out.Next) (Hs s.out.Sets) (pt x)=A:=funext fun w=>propext (hx.more (e:=e) hs hn w)
 have f2:Gk.L (Ed s.out.Next) (Hs s.out.Sets) (pt y)=B:=funext fun w=>propext (hy.lg w)
 rw [f1,f2]
theorem Wr.alt {b m e N:Nat} {sets sets':List CSet} {nx nx':List (List Int)} {x y:Gspots_part} {A B:Lg} (he:e≤400) (hN:900≤N) (hx:Wr b m sets nx x A) (hy:Wr m e sets' nx' y B) (hs:∀k,k<m→sets'[k]?=sets[k]?) (hn:∀k,k<m→nx'[k]?=nx[k]?):
 ∃f l,spots_merge_g N x.first y.first=some f∧spots_merge_g N x.last y.last=some l∧∀n,(n=true↔x.none=true∨y.none=true)→Wr b e sets' nx' ⟨f,l,n⟩ (fun w=>A w∨B w):=by
 obtain ⟨f,f1,f2,f3⟩:=merge_rg he hN (rg_mono hx.pr.first (Nat.le_refl _) hy.le) (rg_mono hy.pr.first hx.le (Nat.le_refl _))
 obtain ⟨l,l1,l2,l3⟩:=merge_rg he hN (rg_mono hx.pr.last (Nat.le_refl _) hy.le) (rg_mono hy.pr.last hx.le (Nat.le_refl _))
 refine ⟨f,l,f1,l1,fun n hno=>⟨hy.len,Nat.le_trans hx.le hy.le,sn_cat hx.sn hy.sn hx.le hy.le hn,⟨f2,l2⟩,fun w=>?_⟩⟩
 have e2:pt ⟨f,l,n⟩=Gk.orP (pt x) (pt y):=by
  unfold pt Gk.orP
  congr 1
  · funext k;exact propext (f3 _)
  · funext k;exact propext (l3 _)
  · exact propext hno
 rw [e2,Gk.L_or (I:=Iv b m) (J:=Iv m e) (clo_sub (e:=e) hx.sn hn) (sn_clo hy.sn) iv_apart (pr_in hx.pr) (pr_in hy.pr),hx.more (e:=e) hs hn w,hy.lg w]
theorem Wr.loop {m e N:Nat} {s:Gspots_writer} {q:Gspots_part} {A:Lg} (he:e≤400) (hN:900≤N) (hq:Wr m e s.out.Sets s.out.Next q A):
 ∃nx',spots_writer_next_g N q.last q.first s=some ⟨⟨s.out.Sets,s.out.None,s.out.First,s.out.Last,nx'⟩⟩∧Wr m e s.out.Sets nx' ⟨q.first,q.last,true⟩ (fun w=>∃n,lpow A n w)∧∀k,k<m→nx'[k]?=s.out.Next[k]?:=by
 obtain ⟨nx',q1,q2,q3,q4⟩:=next_p he hN hq.sn hq.pr.last hq.pr.first
 refine ⟨nx',q1,⟨hq.len,hq.le,q2,⟨hq.pr.first,hq.pr.last⟩,fun w=>?_⟩,q3⟩
 have e1:Ed nx'=Gk.link (Ed s.out.Next) (pt q) (pt q):=funext fun k=>funext fun j=>propext (q4 k j)
 have e2:pt ⟨q.first,q.last,true⟩=Gk.loop (pt q):=by unfold pt Gk.loop;simp
 have f2:Gk.L (Ed s.out.Next) (Hs s.out.Sets) (pt q)=A:=funext fun w=>propext (hq.lg w)
 rw [e1,e2,Gk.L_loop (sn_clo hq.sn) (pr_in hq.pr),f2]
theorem Wr.opt {b e:Nat} {sets:List CSet} {nx:List (List Int)} {p:Gspots_part} {A:Lg} (h:Wr b e sets nx p A):Wr b e sets nx ⟨p.first,p.last,true⟩ (fun w=>w=[]∨A w):=by
 refine ⟨h.len,h.le,h.sn,⟨h.pr.first,h.pr.last⟩,fun w=>?_⟩
 have e2:pt ⟨p.first,p.last,true⟩=Gk.opt (pt p):=by unfold pt Gk.opt;simp
 rw [e2,Gk.L_opt,h.lg]
theorem Wr.of_iff {b e:Nat} {sets:List CSet} {nx:List (List Int)} {p:Gspots_part} {A B:Lg} (h:Wr b e sets nx p A) (hi:∀w,A w↔B w):Wr b e sets nx p B:=⟨h.len,h.le,h.sn,h.pr,fun w=>(h.lg w).trans (hi w)⟩
theorem wr_emp {b:Nat} {sets:List CSet} {nx:List (List Int)} (h1:sets.length=b) (h2:nx.length=b):Wr b b sets nx ⟨[],[],true⟩ lnil:=by
 refine ⟨h1,Nat.le_refl _,⟨h2,fun k l hk hl=>?_⟩,⟨rg_nil,rg_nil⟩,fun w=>?_⟩
 · have:=(List.getElem?_eq_some_iff.1 hl).1;omega
 · have e2:pt ⟨[],[],true⟩=Gk.emp:=by unfold pt Gk.emp;simp
   rw [e2,Gk.L_emp];rfl
theorem wr_no {b:Nat} {sets:List CSet} {nx:List (List Int)} (h1:sets.length=b) (h2:nx.length=b):Wr b b sets nx ⟨[],[],false⟩ (fun _=>False):=by
 refine ⟨h1,Nat.le_refl _,⟨h2,fun k l hk hl=>?_⟩,⟨rg_nil,rg_nil⟩,fun w=>?_⟩
 · have:=(List.getElem?_eq_some_iff.1 hl).1;omega
 · constructor
   · rintro (⟨-,h⟩ | ⟨k,k',h,-⟩)
     · cases h
     · cases h
   · exact fun h=>h.elim
theorem wr_one {b:Nat} {sets:List CSet} {nx:List (List Int)} (h1:sets.length=b) (h2:nx.length=b) (S:CSet):Wr b (b+1) (sets++[S]) (nx++[[]]) ⟨[(b:Int)],[(b:Int)],false⟩ (fun w=>∃c,w=[c]∧S.has c.toNat=true):=by
 have rg:Rg b (b+1) [(b:Int)]:=⟨List.pairwise_singleton _ _,fun x hx=>by rw [List.mem_singleton] at hx;omega⟩
 have hl:(nx++[[]])[b]?=some []:=by rw [List.getElem?_append_right (by omega),h2];simp
 have hS:(sets++[S])[b]?=some S:=by rw [List.getElem?_append_right (by omega),h1];simp
 have hH:∀c,Hs (sets++[S]) b c↔S.has c.toNat=true:=fun c=>⟨fun ⟨T,g1,g2⟩=>by rw [hS] at g1;cases g1;exact g2,fun h=>⟨S,hS,h⟩⟩
 have hE:∀j,¬ Ed (nx++[[]]) b j:=fun j ⟨l,g1,g2⟩=>by rw [hl] at g1;cases g1;cases g2
 refine ⟨by rw [List.length_append,h1];rfl,Nat.le_succ _,⟨by rw [List.length_append,h2];rfl,fun k l hk g=>?_⟩,⟨rg,rg⟩,fun w=>?_⟩
 · have hk2:=(List.getElem?_eq_some_iff.1 g).1
   rw [List.length_append,h2] at hk2
   have:k=b:=by have:k<b+1:=hk2;omega
   subst this
   rw [hl] at g;cases g
   exact rg_nil
 · constructor
   · rintro (⟨-,h⟩ | ⟨k,k',g1,g2,g3⟩)
     · cases h
     · have e1:k=b:=by have:=List.mem_singleton.1 (show (k:Int)∈[(b:Int)] from g1);omega
       subst e1
       match w,g3 with
       | c::w,⟨h0,h⟩=>
         rcases h with ⟨rfl,-⟩ | ⟨j,h3,-⟩
         · exact ⟨c,rfl,(hH c).1 h0⟩
         · exact absurd h3 (hE j)
   · rintro ⟨c,rfl,h⟩
     exact .inr ⟨b,b,List.mem_singleton.2 rfl,List.mem_singleton.2 rfl,(hH c).2 h,.inl ⟨rfl,rfl⟩⟩
end Pl
end Go.Proofs.YtbpihhelojjedaaDoor
namespace Go.Proofs.YtbpihhelojjedaaDoor
open Go
open Sh Gn Mx
namespace Pl
theorem lc_iff {A A' B B':Lg} (hA:∀w,A w↔A' w) (hB:∀w,B w↔B' w) (w:List UInt8):lcat A B w↔lcat A' B' w:=by
 constructor<;>(rintro ⟨u,v,h,h1,h2⟩;refine ⟨u,v,h,?_,?_⟩)
 · exact (hA u).1 h1
 · exact (hB v).1 h2
 · exact (hA u).2 h1
 · exact (hB v).2 h2
theorem lc_assoc (A B C:Lg) (w:List UInt8):lcat (lcat A B) C w↔lcat A (lcat B C) w:=by
 constructor
 · rintro ⟨_,v,rfl,⟨x,y,rfl,h1,h2⟩,h3⟩
   exact ⟨x,y++v,by rw [List.append_assoc],h1,y,v,rfl,h2,h3⟩
 · rintro ⟨x,_,rfl,h1,y,v,rfl,h2,h3⟩
   exact ⟨x++y,v,by rw [List.append_assoc],⟨x,y,rfl,h1,h2⟩,h3⟩
theorem lc_nil (A:Lg) (w:List UInt8):lcat lnil A w↔A w:=by
 constructor
 · rintro ⟨u,v,rfl,h1,h2⟩
   have:u=[]:=h1
   subst this;simpa using h2
 · intro h;exact ⟨[],w,rfl,rfl,h⟩
theorem lc_nil_r (A:Lg) (w:List UInt8):lcat A lnil w↔A w:=by
 constructor
 · rintro ⟨u,v,rfl,h1,h2⟩
   have:v=[]:=h2
   subst this;simpa using h1
 · intro h;exact ⟨w,[],(List.append_nil w).symm,h,rfl⟩
theorem lp_add (A:Lg) (b:Nat):∀(a:Nat) (w:List UInt8),lcat (lpow A a) (lpow A b) w↔lpow A (a+b) w
 | 0,w=>by rw [Nat.zero_add];exact lc_nil _ w
 | a+1,w=>by
   rw [show a+1+b=(a+b)+1 by omega]
   show lcat (lcat A (lpow A a)) (lpow A b) w↔lcat A (lpow A (a+b)) w
   rw [lc_assoc]
   exact lc_iff (fun _=>Iff.rfl) (lp_add A b a) w
theorem lp_one (A:Lg) (w:List UInt8):lpow A 1 w↔A w:=lc_nil_r A w
theorem lp_nil {A:Lg} (h:∀w,A w↔w=[]):∀(k:Nat) (w:List UInt8),lpow A k w↔w=[]
 | 0,w=>Iff.rfl
 | k+1,w=>by
   show lcat A (lpow A k) w↔_
   rw [lc_iff (A':=lnil) (B':=lnil) h (lp_nil h k)]
   exact lc_nil lnil w
mutual
def cnt:Node→Nat
 | .mk k S kids mn mx=>if k=1 then 1 else if k=4 then (if mx=-1 then cnts kids*(mn.toNat+1) else cnts kids*mx.toNat) else cnts kids
def cnts:List Node→Nat
 | []=>0
 | n::r=>cnt n+cnts r
end
theorem cnt_eq (n:Node):cnt n=if n.kind=1 then 1 else if n.kind=4 then (if n.max=-1 then cnts n.kids*(n.min.toNat+1) else cnts n.kids*n.max.toNat) else cnts n.kids:=by cases n;rw [cnt]<;>rfl
theorem cnts_cons (n:Node) (r:List Node):cnts (n::r)=cnt n+cnts r:=by rw [cnts]
theorem cnts_nil:cnts []=0:=by rw [cnts]
theorem incL {i:Nat} (h:i<9223372036854775807):ar .add .i64 (i:Int) 1=((i+1:Nat):Int):=by rw [ar_add (by omega) (by omega)];omega
def WOk (rec:Node→Gspots_writer→Option (Gspots_part × Gspots_writer)) (n:Node):Prop:=∀(s:Gspots_writer) (b:Nat),s.out.Sets.length=b→s.out.Next.length=b→b+cnt n≤400→
 ∃p X nx',rec n s=some (p,⟨⟨s.out.Sets++X,s.out.None,s.out.First,s.out.Last,nx'⟩⟩)∧Wr b (b+cnt n) (s.out.Sets++X) nx' p (lang n)∧∀k,k<b→nx'[k]?=s.out.Next[k]?
variable {N:Nat} {n:Node} {rec:Node→Gspots_writer→Option (Gspots_part × Gspots_writer)}
theorem sets_app {sets X:List CSet} {e:Nat} (h:sets.length=e) (k:Nat) (hk:k<e):(sets++X)[k]?=sets[k]?:=List.getElem?_append_left (by omega)
theorem wcat_l (hN:900≤N) (hl:n.kids.length≤9223372036854775807) (hr:∀c∈n.kids,WOk rec c) (no:Bool) (fi la:List Int) {b:Nat}:∀(m i:Nat) (sets:List CSet) (nx:List (List Int)) (x:Gspots_part) (A:Lg) (e:Nat),i≤n.kids.length→n.kids.length<i+m→Wr b e sets nx x A→e+cnts (n.kids.drop i)≤400→
 ∃p X nx',spots_writer_write_l2 rec N n m i no fi la sets nx x.first x.last x.none=some (p,⟨⟨sets++X,no,fi,la,nx'⟩⟩)∧Wr b (e+cnts (n.kids.drop i)) (sets++X) nx' p (lcat A (langCat (n.kids.drop i)))∧∀k,k<b→nx'[k]?=nx[k]?:=by
 intro m
 induction m with
 | zero=>intro i sets nx x A e h1 h2;omega
 | succ m ih=>
   intro i sets nx x A e h1 h2 hx he
   rw [spots_writer_write_l2]
   by_cases c:i<n.kids.length
   · have c':cm .lss (i:Int) (ll (rw _ nodeRow n.kids))=true:=by rw [cm_lss,ll_eq];exact decide_eq_true (by omega)
     rw [List.drop_eq_getElem_cons c] at he ⊢
     rw [cnts_cons] at he ⊢
     obtain ⟨q,X1,nx1,r1,r2,r3⟩:=hr _ (List.getElem_mem c) ⟨⟨sets,no,fi,la,nx⟩⟩ e hx.len hx.sn.1 (by omega)
     obtain ⟨p,nx2,s1,s2,s3⟩:=Wr.behind (N:=N) (s:=⟨⟨sets++X1,no,fi,la,nx1⟩⟩) (by omega) hN hx r2 (sets_app hx.len) r3
     obtain ⟨p',X2,nx3,t1,t2,t3⟩:=ih (i+1) _ _ p _ _ (by omega) (by omega) s2 (by omega)
     rw [c',_root_.cond_true,at_in c]
     simp only [Option.bind_some,r1,s1,incL (show i<9223372036854775807 by omega)]
     refine ⟨p',X1++X2,nx3,by rw [t1,List.append_assoc],?_,fun k hk=>by rw [t3 k hk,s3 k hk];exact r3 k (by have:=hx.le;omega)⟩
     rw [←List.append_assoc,show e+(cnt n.kids[i]+cnts (n.kids.drop (i+1)))=e+cnt n.kids[i]+cnts (n.kids.drop (i+1)) by omega]
     refine t2.of_iff fun w=>?_
     rw [lc_assoc]
     exact lc_iff (fun _=>Iff.rfl) (fun w=>(langCat_cons _ _ w).symm) w
   · have c':cm .lss (i:Int) (ll (rw _ nodeRow n.kids))=false:=by rw [cm_lss,ll_eq];exact decide_eq_false (by omega)
     rw [c',_root_.cond_false,List.drop_of_length_le (by omega),cnts_nil]
     refine ⟨x,[],nx,by rw [List.append_nil],?_,fun _ _=>rfl⟩
     rw [List.append_nil]
     refine hx.of_iff fun w=>?_
     rw [langCat]
     exact (lc_nil_r A w).symm
theorem walt_l (hN:900≤N) (hl:n.kids.length≤9223372036854775807) (hr:∀c∈n.kids,WOk rec c) (no:Bool) (fi la:List Int) {b:Nat}:∀(m i:Nat) (sets:List CSet) (nx:List (List Int)) (x:Gspots_part) (A:Lg) (e:Nat),i≤n.kids.length→n.kids.length<i+m→Wr b e sets nx x A→e+cnts (n.kids.drop i)≤400→
 ∃p X nx',spots_writer_write_l1 rec N n m i no fi la sets nx x.first x.last x.none=some (p,⟨⟨sets++X,no,fi,la,nx'⟩⟩)∧Wr b (e+cnts (n.kids.drop i)) (sets++X) nx' p (fun w=>A w∨langAlt (n.kids.drop i) w)∧∀k,k<b→nx'[k]?=nx[k]?:=by
 intro m
 induction m with
 | zero=>intro i sets nx x A e h1 h2;omega
 | succ m ih=>
   intro i sets nx x A e h1 h2 hx he
   rw [spots_writer_write_l1]
   by_cases c:i<n.kids.length
   · have c':cm .lss (i:Int) (ll (rw _ nodeRow n.kids))=true:=by rw [cm_lss,ll_eq];exact decide_eq_true (by omega)
     rw [List.drop_eq_getElem_cons c] at he ⊢
     rw [cnts_cons] at he ⊢
     obtain ⟨q,X1,nx1,r1,r2,r3⟩:=hr _ (List.getElem_mem c) ⟨⟨sets,no,fi,la,nx⟩⟩ e hx.len hx.sn.1 (by omega)
     obtain ⟨f,l,s1,s2,s3⟩:=Wr.alt (N:=N) (by omega) hN hx r2 (sets_app hx.len) r3
     have fin:∀no2,(no2=true↔x.none=true∨q.none=true)→∃p X nx',spots_writer_write_l1 rec N n m (ar .add .i64 (i:Int) 1) no fi la (sets++X1) nx1 f l no2=some (p,⟨⟨sets++X,no,fi,la,nx'⟩⟩)∧Wr b (e+(cnt n.kids[i]+cnts (n.kids.drop (i+1)))) (sets++X) nx' p (fun w=>A w∨langAlt (n.kids[i]::n.kids.drop (i+1)) w)∧∀k,k<b→nx'[k]?=nx[k]?:=fun no2 hno=>by
      obtain ⟨p',X2,nx3,t1,t2,t3⟩:=ih (i+1) _ _ ⟨f,l,no2⟩ _ _ (by omega) (by omega) (s3 no2 hno) (by omega)
      rw [incL (show i<9223372036854775807 by omega)]
      refine ⟨p',X1++X2,nx3,by rw [t1,List.append_assoc],?_,fun k hk=>by rw [t3 k hk];exact r3 k (by have:=hx.le;omega)⟩
      rw [←List.append_assoc,show e+(cnt n.kids[i]+cnts (n.kids.drop (i+1)))=e+cnt n.kids[i]+cnts (n.kids.drop (i+1)) by omega]
      exact t2.of_iff fun w=>by rw [langAlt_cons,_root_.or_assoc]
     rw [c',_root_.cond_true,at_in c]
     simp only [Option.bind_some,r1,s1,s2]
     cases hb:x.none with
     | true=>simp only [_root_.cond_true];exact fin true (by rw [hb];simp)
     | false=>simp only [_root_.cond_false];exact fin q.none (by rw [hb];simp)
   · have c':cm .lss (i:Int) (ll (rw _ nodeRow n.kids))=false:=by rw [cm_lss,ll_eq];exact decide_eq_false (by omega)
     rw [c',_root_.cond_false,List.drop_of_length_le (by omega),cnts_nil]
     refine ⟨x,[],nx,by rw [List.append_nil],?_,fun _ _=>rfl⟩
     rw [List.append_nil]
     refine hx.of_iff fun w=>?_
     rw [langAlt]
     simp
theorem rest_p {c:Node} {M:Nat} (hM:900≤M) (hc:∀N,M≤N→WOk (spots_writer_write_g N) c):∀(left N:Nat),left≤1000→M+left+1≤N→∀(s:Gspots_writer) (b:Nat),s.out.Sets.length=b→s.out.Next.length=b→b+cnt c*left≤400→
 ∃p X nx',spots_writer_often_1_g N left s c=some (p,⟨⟨s.out.Sets++X,s.out.None,s.out.First,s.out.Last,nx'⟩⟩)∧Wr b (b+cnt c*left) (s.out.Sets++X) nx' p (fun w=>∃k,k≤left∧lpow (lang c) k w)∧∀k,k<b→nx'[k]?=s.out.Next[k]?:=by
 intro left
 induction left with
 | zero=>
   intro N hle hN s b h1 h2 h3
   obtain ⟨N,rfl⟩:∃K,N=K+1:=⟨N-1,by omega⟩
   rw [spots_writer_often_1_g]
   have c0:cm .eql (((0:Nat):Int)) 0=true:=rfl
   simp only [c0,_root_.cond_true]
   refine ⟨_,[],s.out.Next,by rw [List.append_nil],?_,fun _ _=>rfl⟩
   rw [List.append_nil,Nat.mul_zero,Nat.add_zero]
   refine (wr_emp h1 h2).of_iff fun w=>?_
   constructor
   · exact fun h=>⟨0,Nat.le_refl _,h⟩
   · rintro ⟨k,hk,h⟩
     obtain rfl:k=0:=by omega
     exact h
 | succ left ih=>
   intro N hle hN s b h1 h2 h3
   obtain ⟨N,rfl⟩:∃K,N=K+1:=⟨N-1,by omega⟩
   rw [spots_writer_often_1_g]
   have c0:cm .eql (((left+1:Nat):Int)) 0=false:=by rw [cm_eql];exact decide_eq_false (by omega)
   have c1:ar .sub .i64 (((left+1:Nat):Int)) 1=(left:Int):=by rw [ar_sub (by omega) (by omega)];omega
   rw [Nat.mul_add,Nat.mul_one] at h3
   obtain ⟨q,X1,nx1,r1,r2,r3⟩:=hc N (by omega) s b h1 h2 (by omega)
   have hb:(s.out.Sets++X1).length=b+cnt c:=r2.len
   obtain ⟨q2,X2,nx2,t1,t2,t3⟩:=ih N (by omega) (by omega) ⟨⟨s.out.Sets++X1,s.out.None,s.out.First,s.out.Last,nx1⟩⟩ (b+cnt c) hb r2.sn.1 (by omega)
   obtain ⟨p,nx3,s1,s2,s3⟩:=Wr.behind (N:=N) (s:=⟨⟨s.out.Sets++X1++X2,s.out.None,s.out.First,s.out.Last,nx2⟩⟩) (by omega) (by omega) r2 t2 (sets_app hb) t3
   simp only [c0,c1,_root_.cond_false,r1,t1,s1,Option.bind_some]
   refine ⟨_,X1++X2,nx3,by rw [←List.append_assoc],?_,fun k hk=>by rw [s3 k hk];exact (t3 k (by omega)).trans (r3 k hk)⟩
   rw [←List.append_assoc,show b+cnt c*(left+1)=b+cnt c+cnt c*left by rw [Nat.mul_add,Nat.mul_one];omega]
   refine s2.opt.of_iff fun w=>?_
   constructor
   · rintro (rfl | ⟨u,v,rfl,h4,k,hk,h5⟩)
     · exact ⟨0,Nat.zero_le _,rfl⟩
     · exact ⟨k+1,by omega,u,v,rfl,h4,h5⟩
   · rintro ⟨k,hk,h⟩
     cases k with
     | zero=>exact .inl h
     | succ k=>
       obtain ⟨u,v,e,h4,h5⟩:=h
       exact .inr ⟨u,v,e,h4,k,by omega,h5⟩
theorem lp_from (A:Lg) (lo:Nat) (P:Nat→Prop) (w:List UInt8):lcat (lpow A lo) (fun w=>∃k,P k∧lpow A k w) w↔∃k,P k∧lpow A (lo+k) w:=by
 constructor
 · rintro ⟨u,v,rfl,h1,k,hp,h2⟩
   exact ⟨k,hp,(lp_add A k lo _).1 ⟨u,v,rfl,h1,h2⟩⟩
 · rintro ⟨k,hp,h⟩
   obtain ⟨u,v,e,h1,h2⟩:=(lp_add A k lo w).2 h
   exact ⟨u,v,e,h1,k,hp,h2⟩
theorem often_l {c p1:Node} {M K lo:Nat} (hM:900≤M) (hK:M+20≤K) (hc:∀N,M≤N→WOk (spots_writer_write_g N) c) (hlo:p1.min=(lo:Int)) (hl16:lo≤16) (hmx:p1.max=-1∨∃hi:Nat,p1.max=(hi:Int)∧lo≤hi∧hi≤16) (no:Bool) (fi la:List Int) {b:Nat}:
 ∀(m i:Nat) (sets:List CSet) (nx:List (List Int)) (x:Gspots_part) (e:Nat),i≤lo→lo<i+m→Wr b e sets nx x (lpow (lang c) i)→e+cnt c*(lo-i)+(if p1.max=-1 then cnt c else cnt c*(p1.max.toNat-lo))≤400→
 ∃p X nx',spots_writer_often_l1 (spots_writer_write_g K) (spots_writer_often_1_g K) K p1 c m i no fi la sets nx x.first x.last x.none=some (p,⟨⟨sets++X,no,fi,la,nx'⟩⟩)∧Wr b (e+cnt c*(lo-i)+(if p1.max=-1 then cnt c else cnt c*(p1.max.toNat-lo))) (sets++X) nx' p (fun w=>∃k:Nat,lo≤k∧(p1.max=-1∨(k:Int)≤p1.max)∧lpow (lang c) k w)∧∀k,k<b→nx'[k]?=nx[k]?:=by
 intro m
 induction m with
 | zero=>intro i sets nx x e h1 h2;omega
 | succ m ih=>
   intro i sets nx x e h1 h2 hx he
   rw [spots_writer_often_l1,hlo]
   by_cases g:i<lo
   · have c':cm .lss (i:Int) (lo:Int)=true:=by rw [cm_lss];exact decide_eq_true (by omega)
     obtain ⟨d,hd⟩:∃d,lo-i=d+1:=⟨lo-i-1,by omega⟩
     have hd2:lo-(i+1)=d:=by omega
     rw [hd,Nat.mul_add,Nat.mul_one] at he ⊢
     obtain ⟨q,X1,nx1,r1,r2,r3⟩:=hc K (by omega) ⟨⟨sets,no,fi,la,nx⟩⟩ e hx.len hx.sn.1 (by omega)
     obtain ⟨p,nx2,s1,s2,s3⟩:=Wr.behind (N:=K) (s:=⟨⟨sets++X1,no,fi,la,nx1⟩⟩) (by omega) (by omega) hx r2 (sets_app hx.len) r3
     obtain ⟨p',X2,nx3,t1,t2,t3⟩:=ih (i+1) _ _ p _ (by omega) (by omega) (s2.of_iff fun w=>(lc_iff (fun _=>Iff.rfl) (fun w=>(lp_one (lang c) w).symm) w).trans (lp_add (lang c) 1 i w)) (by rw [hd2];omega)
     rw [c',_root_.cond_true]
     simp only [Option.bind_some,r1,s1,inc1 (show i≤100000000 by omega)]
     refine ⟨p',X1++X2,nx3,by rw [t1,List.append_assoc],?_,fun k hk=>by rw [t3 k hk,s3 k hk];exact r3 k (by have:=hx.le;omega)⟩
     rw [←List.append_assoc]
     rw [hd2] at t2
     have ee:e+(cnt c*d+cnt c)+(if p1.max=-1 then cnt c else cnt c*(p1.max.toNat-lo))=e+cnt c+cnt c*d+(if p1.max=-1 then cnt c else cnt c*(p1.max.toNat-lo)):=by omega
     rw [ee]
     exact t2
   · have hi0:i=lo:=by omega
     subst hi0
     have c':cm .lss (i:Int) (i:Int)=false:=by rw [cm_lss];exact decide_eq_false (by omega)
     rw [Nat.sub_self,Nat.mul_zero,Nat.add_zero] at he ⊢
     rw [c',_root_.cond_false,cm_eql,cond_dec]
     rcases hmx with hm | ⟨hi,hm,hh1,hh2⟩
     · rw [if_pos hm] at he ⊢
       rw [if_pos hm]
       obtain ⟨q,X1,nx1,r1,r2,r3⟩:=hc K (by omega) ⟨⟨sets,no,fi,la,nx⟩⟩ e hx.len hx.sn.1 (by omega)
       obtain ⟨nx2,u1,u2,u3⟩:=Wr.loop (N:=K) (s:=⟨⟨sets++X1,no,fi,la,nx1⟩⟩) (by omega) (by omega) r2
       obtain ⟨p,nx3,s1,s2,s3⟩:=Wr.behind (N:=K) (s:=⟨⟨sets++X1,no,fi,la,nx2⟩⟩) (by omega) (by omega) hx u2 (sets_app hx.len) (fun k hk=>(u3 k hk).trans (r3 k hk))
       simp only [Option.bind_some,r1,u1,s1]
       refine ⟨p,X1,nx3,rfl,s2.of_iff fun w=>?_,fun k hk=>by have:=hx.le;rw [s3 k hk];exact (u3 k (by omega)).trans (r3 k (by omega))⟩
       have h5:=lp_from (lang c) i (fun _=>True) w
       simp only [true_and] at h5
       rw [h5]
       constructor
       · rintro ⟨k,h⟩;exact ⟨i+k,by omega,.inl hm,h⟩
       · rintro ⟨k,hk,-,h⟩;exact ⟨k-i,by rwa [show i+(k-i)=k by omega]⟩
     · have hne:¬ p1.max=-1:=by omega
       rw [if_neg hne] at he ⊢
       rw [if_neg hne]
       have e1:ar .sub .i64 p1.max (i:Int)=((hi-i:Nat):Int):=by rw [hm,ar_sub (by omega) (by omega)];omega
       have e2:p1.max.toNat-i=hi-i:=by rw [hm,Int.toNat_natCast]
       rw [e2] at he ⊢
       obtain ⟨q,X1,nx1,r1,r2,r3⟩:=rest_p hM hc (hi-i) K (by omega) (by omega) ⟨⟨sets,no,fi,la,nx⟩⟩ e hx.len hx.sn.1 he
       obtain ⟨p,nx3,s1,s2,s3⟩:=Wr.behind (N:=K) (s:=⟨⟨sets++X1,no,fi,la,nx1⟩⟩) (by omega) (by omega) hx r2 (sets_app hx.len) r3
       simp only [Option.bind_some,e1,r1,s1]
       refine ⟨p,X1,nx3,rfl,s2.of_iff fun w=>?_,fun k hk=>by have:=hx.le;rw [s3 k hk];exact r3 k (by omega)⟩
       rw [lp_from (lang c) i (fun k=>k≤hi-i) w]
       constructor
       · rintro ⟨k,hk,h⟩;exact ⟨i+k,by omega,.inr (by rw [hm];omega),h⟩
       · rintro ⟨k,hk,h1 | h1,h⟩
         · exact absurd h1 hne
         · exact ⟨k-i,by omega,by rwa [show i+(k-i)=k by omega]⟩
theorem kid_le {n c:Node} (h:c∈n.kids):c.size+1≤n.size:=by
 rw [Node.size_eq n]
 have key:∀l:List Node,c∈l→c.size≤Node.sizes l:=by
  intro l
  induction l with
  | nil=>intro h;cases h
  | cons a r ih=>
    intro h
    rw [Node.sizes_cons]
    rcases List.mem_cons.1 h with rfl | h
    · omega
    · have:=ih h;omega
 have:=key _ h
 omega
end Pl
end Go.Proofs.YtbpihhelojjedaaDoor
