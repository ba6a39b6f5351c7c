/- Texts that the proof leans on. -/
import Derived.Test.YtjhbgkakhaonaaaGreatDoorK333
set_option linter.unusedVariables false
set_option linter.unusedSimpArgs false
set_option maxRecDepth 100000
set_option maxHeartbeats 4000000
namespace Go.Proofs.YtjhbgkakhaonaaaGreatDoor
open Go
open Sh Gn
open Pl (pickL mem_pick pick_congr pick_len pickF pickF_0 pickF_s pickF_e Fit Low nextOf Mk mk_0 mk_at mk_set rs rs_in okB fit_pick)
namespace Dq
variable {p:GSpots}
theorem zro_eq {α:Type} {c:α→List Ab.T} {z:α} {n:Nat} (h:n≤1000000):zro c z (n:Int) (n:Int)=some (List.replicate n z):=by
 unfold zro
 rw [if_pos ⟨rfl,by omega,by omega⟩,Int.toNat_natCast]
theorem set_rep {α:Type} {z:α} {r:List α} {W k:Nat} {n:α} (hr:r.length=k) (hk:k<W):(r++List.replicate (W-k) z).set k n=(r++[n])++List.replicate (W-(k+1)) z:=by
 rw [List.set_append_right _ _ (by omega),hr,Nat.sub_self,show W-k=(W-(k+1))+1 by omega,List.replicate_succ]
 simp
theorem step_l6 {N:Nat} {s0:Gdfa_builder} {n:Nat} {B:List Int} {v11:List Bool} {acc:List Int} {bs:List Nat} (hp:Low p) (hlast:p.Last.length≤1000) (hN:5000≤N) (hin:s0.in_=bs.map (inK p)) (hv:Mk p.Sets.length v11 acc) (hb1:1≤bs.length) (hb2:bs.length≤256):∀(m k:Nat) (seen:List (ByteArray × Int)) (s:List (List Int)) (fi:List Bool) (nx:List (List Int)) (r:List Int),
 k≤bs.length→bs.length<k+m→r.length=k→Bs p seen s fi nx→n<nx.length→
 match rowS p acc (bs.drop k) s fi r with
 | none=>∃d,dfa_builder_step_l6 N n s0 v11 m k p.Sets p.None p.First p.Last p.Next (bs.map (inK p)) 0 B seen s fi nx (r++List.replicate (bs.length-k) 0)=some (false,d)
 | some (s',fi',r')=>∃seen' nx',Bs p seen' s' fi' nx'∧s.length≤s'.length∧nx'=(nx++List.replicate (s'.length-s.length) []).set n r'∧
  dfa_builder_step_l6 N n s0 v11 m k p.Sets p.None p.First p.Last p.Next (bs.map (inK p)) 0 B seen s fi nx (r++List.replicate (bs.length-k) 0)=some (true,bld p (bs.map (inK p)) B seen' s' fi' nx'):=by
 have hM:=hp.sets
 intro m
 induction m with
 | zero=>intro k seen s fi nx r h1 h2;omega
 | succ m ih=>
   intro k seen s fi nx r h1 h2 hr hB hn
   rw [dfa_builder_step_l6,hin]
   simp only [cm_lss,ll_eq,cond_dec,List.length_map]
   by_cases c:k<bs.length
   · have hk:(k:Int)<(bs.length:Int):=by omega
     have hat:at_ (bs.map (inK p)) (k:Int)=some (inK p bs[k]):=by rw [at_nat,List.getElem?_map,List.getElem?_eq_getElem c];rfl
     have hz:zro cB false (v11.length:Int) (v11.length:Int)=some (List.replicate p.Sets.length false):=by rw [zro_eq (by rw [hv.1];omega),hv.1]
     simp only [hk,if_true,hat,Option.bind_some,hz]
     have h7:=step_l7 (p:=p) (N:=N) (k6:=dfa_builder_step_l6 N n s0 v11 m) (k:=k) (inn:=bs.map (inK p)) (B:=B) (seen:=seen) (s:=s) (fi:=fi) (nx:=nx) (row:=r++List.replicate (bs.length-k) 0) (v11:=v11) (acc:=acc) (b:=bs[k]) hp hlast hN hB hv (by simp;omega) (by simp;omega) N 0 (List.replicate p.Sets.length false) [] (by omega) (by have:=pick_len (many:=p.Sets.length) (f:=hb p bs[k]);unfold inK;omega) mk_0 (fun y h=>by cases h) (fun x=>by
      rw [List.nil_append,List.drop_zero,List.mem_filter,inK,mem_pick,setK,mem_pick,Bool.and_eq_true]
      exact ⟨fun h=>⟨h.1.1,h.2,h.1.2⟩,fun h=>⟨⟨h.1,h.2.2⟩,h.2.1⟩⟩)
     rw [List.drop_eq_getElem_cons c,rowS]
     cases hf:fnd s (setK p acc bs[k]) with
     | some j=>
       rw [hf] at h7
       simp only at h7 ⊢
       have h7':dfa_builder_step_l7 N (dfa_builder_step_l6 N n s0 v11 m) (k:Int) p.First (inK p bs[k]) p.Last p.Sets p.None p.Next (bs.map (inK p)) 0 B seen s fi nx (r++List.replicate (bs.length-k) 0) v11 N 0 (List.replicate p.Sets.length false)=_:=h7
       rw [h7',set_rep hr c]
       exact ih (k+1) seen s fi nx (r++[(j:Int)]) (by omega) (by omega) (by simp [hr]) hB hn
     | none=>
       rw [hf] at h7
       simp only at h7 ⊢
       by_cases g:4096≤s.length
       · rw [if_pos g] at h7 ⊢
         exact h7
       · rw [if_neg g] at h7 ⊢
         obtain ⟨seen',q1,q2⟩:=h7
         have q2':dfa_builder_step_l7 N (dfa_builder_step_l6 N n s0 v11 m) (k:Int) p.First (inK p bs[k]) p.Last p.Sets p.None p.Next (bs.map (inK p)) 0 B seen s fi nx (r++List.replicate (bs.length-k) 0) v11 N 0 (List.replicate p.Sets.length false)=_:=q2
         rw [q2',set_rep hr c]
         have h:=ih (k+1) seen' _ _ _ (r++[(s.length:Int)]) (by omega) (by omega) (by simp [hr]) q1 (by simp;omega)
         revert h
         cases rowS p acc (bs.drop (k+1)) (s++[setK p acc bs[k]]) (fi++[tk p (setK p acc bs[k])]) (r++[(s.length:Int)]) with
         | none=>exact fun h=>h
         | some z=>
           obtain ⟨s',fi',r'⟩:=z
           rintro ⟨seen2,nx2,h1,h2,h3,h4⟩
           simp only [List.length_append,List.length_cons,List.length_nil] at h2 h3
           refine ⟨seen2,nx2,h1,by omega,?_,h4⟩
           rw [h3,List.append_assoc]
           congr 2
           rw [show s'.length-s.length=(s'.length-(s.length+1))+1 by omega,List.replicate_succ]
           rfl
   · have hk:¬(k:Int)<(bs.length:Int):=by omega
     have e:k=bs.length:=by omega
     have hrl:r.length=bs.length:=by omega
     rw [List.drop_of_length_le (by omega),rowS]
     simp only [hk,if_false]
     refine ⟨seen,nx.set n r,⟨hB.seen,hB.ne,hB.le,hB.fin,by rw [List.length_set];exact hB.nx⟩,Nat.le_refl _,by simp,?_⟩
     have e0:r++List.replicate (bs.length-k) (0:Int)=r:=by rw [e,Nat.sub_self];simp
     rw [e0,zro_eq (by omega),Option.bind_some,at_in hn]
     have hc:cpy (cI .i64) (List.replicate r.length (0:Int)) r=some r:=by
      unfold cpy
      rw [if_pos ⟨by intro h;have:=congrArg List.length h;simp at this;simp [this] at hrl;omega,by intro h;rw [h] at hrl;simp at hrl;omega⟩]
      simp
     simp only [Option.bind_some,hc,put,Int.toNat_natCast]
     rfl
theorem step_l3 {N:Nat} {s0:Gdfa_builder} {n:Nat} {x acc0:List Int} (hs0:s0.p=p) (hp:Pl.Ok p) (hN:5000≤N) (hx:Fit p x):∀(m i:Nat) (v:List Bool),i≤x.length→x.length<i+m→Mk p.Sets.length v (acc0++(x.take i).flatMap (nextOf p))→
 ∃ v',Mk p.Sets.length v' (acc0++x.flatMap (nextOf p))∧dfa_builder_step_l3 N n s0 x m i v=
   (zro (cI .i64) 0 (ll (rw _ (cLs (cI .i64)) s0.in_)) (ll (rw _ (cLs (cI .i64)) s0.in_))).bind fun l20=>dfa_builder_step_l6 N n s0 v' N 0 s0.p.Sets s0.p.None s0.p.First s0.p.Last s0.p.Next s0.in_ s0.out.Start s0.out.Block s0.seen s0.sets s0.out.Final s0.out.Next l20:=by
 have h200:=hx.1
 intro m
 induction m with
 | zero=>intro i v h1 h2;omega
 | succ m ih=>
   intro i v h1 h2 hv
   rw [dfa_builder_step_l3]
   simp only [cm_lss,cond_dec]
   rw [show ll (rw Int (cI .i64) x)=(x.length:Int) from ll_eq]
   by_cases c:i<x.length
   · have hxi:=hx.2 _ (List.getElem_mem c)
     obtain ⟨q1,q2⟩:=hp.next_at hxi
     have q1':at_ s0.p.Next x[i]=some (nextOf p x[i]):=by rw [hs0];exact q1
     rw [if_pos (by omega),at_in c,Option.bind_some,q1',Option.bind_some]
     obtain ⟨v',h3,h4⟩:=step_l5 (p:=p) (k3:=dfa_builder_step_l3 N n s0 x m) (v10:=(i:Int)) q2 N 0 v _ (by omega) (by have:=q2.1;omega) hv
     have h4':dfa_builder_step_l5 (dfa_builder_step_l3 N n s0 x m) (i:Int) (nextOf p x[i]) N 0 v=_:=h4
     rw [h4',inc1 (by omega)]
     refine ih (i+1) v' (by omega) (by omega) ?_
     rw [List.drop_zero] at h3
     rw [List.take_add_one,List.getElem?_eq_getElem c,List.flatMap_append,←List.append_assoc]
     simpa using h3
   · rw [if_neg (by omega)]
     refine ⟨v,?_,rfl⟩
     rw [List.take_of_length_le (by omega)] at hv
     exact hv
theorem step_p {N:Nat} {n:Nat} {B:List Int} {bs:List Nat} {seen:List (ByteArray × Int)} {s:List (List Int)} {fi:List Bool} {nx:List (List Int)} {x:List Int} (hp:Pl.Ok p) (hN:5000≤N) (hb1:1≤bs.length) (hb2:bs.length≤256) (hB:Bs p seen s fi nx) (hx:s[n]?=some x) (hfit:Fit p x):
 match rowS p (may p n x) bs s fi [] with
 | none=>∃d,dfa_builder_step_g N n (bld p (bs.map (inK p)) B seen s fi nx)=some (false,d)
 | some (s',fi',r')=>∃seen' nx',Bs p seen' s' fi' nx'∧s.length≤s'.length∧nx'=(nx++List.replicate (s'.length-s.length) []).set n r'∧
  dfa_builder_step_g N n (bld p (bs.map (inK p)) B seen s fi nx)=some (true,bld p (bs.map (inK p)) B seen' s' fi' nx'):=by
 have hM:=hp.low.sets
 have hlast:=hp.low.last
 have hn:n<s.length:=(List.getElem?_eq_some_iff.1 hx).1
 unfold dfa_builder_step_g
 have ez:zro cB false (ll (rw _ cSet (bld p (bs.map (inK p)) B seen s fi nx).p.Sets)) (ll (rw _ cSet (bld p (bs.map (inK p)) B seen s fi nx).p.Sets))=some (List.replicate p.Sets.length false):=by
  rw [ll_eq];exact zro_eq (by show p.Sets.length≤_;omega)
 rw [ez,Option.bind_some]
 have first:∃v,Mk p.Sets.length v (if n=0 then p.First else [])∧(cond (cm .eql (n:Int) 0) (dfa_builder_step_l2 (bld p (bs.map (inK p)) B seen s fi nx) N 0 (List.replicate p.Sets.length false)) (some (List.replicate p.Sets.length false)):Option (List Bool))=some v:=by
  rw [cm_eql,cond_dec]
  by_cases e:n=0
  · subst e
    rw [if_pos rfl,if_pos (show ((0:Nat):Int)=0 from rfl)]
    obtain ⟨v,h1,h2⟩:=step_l2 (s0:=bld p (bs.map (inK p)) B seen s fi nx) hp.first N 0 _ [] (by omega) (by have:=hp.first.1;show p.First.length<_;omega) mk_0
    exact ⟨v,h1,h2⟩
  · rw [if_neg e,if_neg (by omega)]
    exact ⟨_,mk_0,rfl⟩
 obtain ⟨v,hv,ev⟩:=first
 rw [ev,Option.bind_some]
 have es:at_ (bld p (bs.map (inK p)) B seen s fi nx).sets (n:Int)=some x:=by rw [at_nat];exact hx
 rw [es]
 simp only [Option.bind_some]
 obtain ⟨v',h1,h2⟩:=step_l3 (s0:=bld p (bs.map (inK p)) B seen s fi nx) (n:=n) rfl hp hN hfit N 0 v (by omega) (by have:=hfit.1;omega) (by rw [List.take_zero,List.flatMap_nil,List.append_nil];exact hv)
 have h2':dfa_builder_step_l3 N (n:Int) (bld p (bs.map (inK p)) B seen s fi nx) x N 0 v=_:=h2
 rw [h2']
 have el:zro (cI .i64) (0:Int) (ll (rw _ (cLs (cI .i64)) (bld p (bs.map (inK p)) B seen s fi nx).in_)) (ll (rw _ (cLs (cI .i64)) (bld p (bs.map (inK p)) B seen s fi nx).in_))=some (List.replicate bs.length 0):=by
  rw [ll_eq,show (bld p (bs.map (inK p)) B seen s fi nx).in_.length=bs.length from List.length_map _]
  exact zro_eq (by omega)
 rw [el,Option.bind_some]
 exact step_l6 (p:=p) (N:=N) (s0:=bld p (bs.map (inK p)) B seen s fi nx) (n:=n) (B:=B) (v11:=v') (acc:=may p n x) (bs:=bs) hp.low (by omega) hN rfl h1 hb1 hb2 N 0 seen s fi nx [] (by omega) (by omega) rfl hB (by rw [hB.nx];exact hn)
theorem rowS_fit:∀{bs:List Nat} {acc:List Int} {s:List (List Int)} {fi:List Bool} {r:List Int} {z:List (List Int)× List Bool × List Int},Low p→(∀x∈s,Fit p x)→rowS p acc bs s fi r=some z→∀x∈z.1,Fit p x
 | [],acc,s,fi,r,z,_,h,e=>by cases e;exact h
 | b ::bs,acc,s,fi,r,z,hl,h,e=>by
   rw [rowS] at e
   split at e
   · exact rowS_fit hl h e
   · split at e
     · cases e
     · refine rowS_fit hl (fun x hx=>?_) e
       rcases List.mem_append.1 hx with hx | hx
       · exact h x hx
       · rw [List.mem_singleton] at hx
         rw [hx]
         exact fit_pick hl
def outS (B:List Int):Option (List (List Int)× List Bool × List (List Int))→GDfa × Int
 | none=>(⟨0,[],[],[]⟩,16)
 | some (_,fi,nx)=>(⟨0,fi,B,nx⟩,0)
theorem of_l3 {N:Nat} {B:List Int} {bs:List Nat} (hp:Pl.Ok p) (hN:5000≤N) (hb1:1≤bs.length) (hb2:bs.length≤256):∀(m n:Nat) (seen:List (ByteArray × Int)) (s:List (List Int)) (fi:List Bool) (rows:List (List Int)),
 n≤s.length→rows.length=n→Bs p seen s fi (rows++List.replicate (s.length-n) [])→(∀x∈s,Fit p x)→
 dfa_Of_l3 N m n seen p.Sets p.None p.First p.Last p.Next (bs.map (inK p)) 0 B s fi (rows++List.replicate (s.length-n) [])=(ofS p bs m n s fi rows).map (outS B):=by
 intro m
 induction m with
 | zero=>intro n seen s fi rows h1 h2 h3 h4;rfl
 | succ m ih=>
   intro n seen s fi rows h1 h2 hB hfit
   have h4096:=hB.le
   rw [dfa_Of_l3,ofS]
   simp only [cm_lss,ll_eq,cond_dec]
   by_cases c:n<s.length
   · have hlen:(n:Int)<((rows++List.replicate (s.length-n) ([]:List Int)).length:Int):=by simp;omega
     have hx:=List.getElem?_eq_getElem c
     have hst:=step_p (p:=p) (N:=N) (n:=n) (B:=B) hp hN hb1 hb2 hB hx (hfit _ (List.getElem_mem c))
     rw [if_pos hlen,hx]
     simp only
     have hbd:(⟨(⟨p.Sets,p.None,p.First,p.Last,p.Next⟩:GSpots),bs.map (inK p),seen,s,(⟨0,fi,B,rows++List.replicate (s.length-n) []⟩:GDfa)⟩:Gdfa_builder)=bld p (bs.map (inK p)) B seen s fi (rows++List.replicate (s.length-n) []):=rfl
     rw [hbd]
     cases hrs:rowS p (may p n s[n]) bs s fi [] with
     | none=>
       rw [hrs] at hst
       obtain ⟨d,hd⟩:=hst
       rw [hd]
       rfl
     | some z=>
       obtain ⟨s',fi',r'⟩:=z
       rw [hrs] at hst
       obtain ⟨seen',nx',q1,q2,q3,q4⟩:=hst
       rw [q4]
       simp only [Option.bind_some,Bool.not_true,_root_.cond_false,inc1 (show n≤100000000 by omega)]
       have e3:nx'=(rows++[r'])++List.replicate (s'.length-(n+1)) []:=by
        rw [q3,List.append_assoc,List.replicate_append_replicate,show s.length-n+(s'.length-s.length)=s'.length-n by omega]
        exact set_rep h2 (by omega)
       have hB':Bs p seen' s' fi' ((rows++[r'])++List.replicate (s'.length-(n+1)) []):=by rw [←e3];exact q1
       have:=ih (n+1) seen' s' fi' (rows++[r']) (by omega) (by simp [h2]) hB' (rowS_fit hp.low hfit hrs)
       rw [←this,←e3]
       rfl
   · have e:n=s.length:=by omega
     have hlen:¬(n:Int)<((rows++List.replicate (s.length-n) ([]:List Int)).length:Int):=by simp;omega
     rw [if_neg hlen,List.getElem?_eq_none (by omega)]
     simp [outS,e]
end Dq
end Go.Proofs.YtjhbgkakhaonaaaGreatDoor
namespace Go.Proofs.YtjhbgkakhaonaaaGreatDoor
open Go
open Sh Gn
open Pl (pickL mem_pick pick_congr pick_len pickF pickF_0 pickF_s pickF_e Fit Low nextOf Mk mk_0 mk_at mk_set rs rs_in okB fit_pick)
namespace Dq
variable {p:GSpots}
theorem rg_has:∀{l:List Int} {m k:Int},rg m l=true→m≤k→k<cnt m l→k∈l
 | [],m,k,_,h1,h2=>by rw [cnt] at h2;omega
 | x ::l,m,k,h,h1,h2=>by
   rw [rg] at h
   split at h
   · cases h
   · rename_i g
     rw [cnt,show max m (x+1)=(if x=m then m+1 else m) by split<;>omega] at h2
     by_cases e:k=x
     · rw [e];exact List.mem_cons_self
     · refine List.mem_cons_of_mem _ (rg_has h ?_ h2)
       split<;>omega
def leastB (B:List Int) (k:Nat):Nat:=B.idxOf (k:Int)
theorem least_lt {B:List Int} (hB:bR B=true) {k:Nat} (hk:(k:Int)<wide B):leastB B k<256∧B[leastB B k]?=some (k:Int)∧∀j,j<leastB B k→B[j]?≠some (k:Int):=by
 have h:=hB
 simp only [bR,Bool.and_eq_true,decide_eq_true_eq] at h
 have hw:wide B=cnt 0 B:=by unfold wide;rw [if_pos hB]
 have hm:(k:Int)∈B:=rg_has h.1 (by omega) (by omega)
 have hl:=List.idxOf_lt_length_of_mem hm
 refine ⟨by unfold leastB;omega,?_,fun j hj=>?_⟩
 · unfold leastB
   rw [List.getElem?_eq_getElem hl,List.getElem_idxOf]
 · intro e
   have h3:j<B.length:=by unfold leastB at hj;omega
   rw [List.getElem?_eq_getElem h3] at e
   have:=List.not_of_lt_findIdx (show j<B.findIdx (·==(k:Int)) from hj)
   simp at this
   exact this (Option.some.inj e)
theorem first_l {B:List Int} (hB:bR B=true) {k:Nat} (hk:(k:Int)<wide B):∀(m i:Nat),i≤leastB B k→leastB B k<i+m→blocks_First_l1 B k m i=some (leastB B k:Int):=by
 obtain ⟨h256,hat,hn⟩:=least_lt hB hk
 have hlen:=(bR_in hB).1
 intro m
 induction m with
 | zero=>intro i h1 h2;omega
 | succ m ih=>
   intro i h1 h2
   have c:i<B.length:=by omega
   rw [blocks_First_l1]
   simp only [cm_lss,ll_eq,cond_dec,cm_eql]
   rw [if_pos (by omega),at_in c,Option.bind_some,inc1 (by omega)]
   by_cases e:i=leastB B k
   · have h3:B[i]=(k:Int):=by
      have:=hat
      rw [←e,List.getElem?_eq_getElem c] at this
      exact Option.some.inj this
     rw [if_pos h3,e]
   · have h3:¬ B[i]=(k:Int):=fun h=>hn i (by omega) (by rw [List.getElem?_eq_getElem c,h])
     rw [if_neg h3]
     exact ih (i+1) (by omega) (by omega)
theorem first_p {B:List Int} (hB:bR B=true) {k:Nat} (hk:(k:Int)<wide B) {N:Nat} (hN:5000≤N):blocks_First_g N B k=some (leastB B k:Int):=by
 unfold blocks_First_g
 have hlen:=(bR_in hB).1
 have h256:=(least_lt hB hk).1
 rw [bright_p (by omega) (by omega),Option.bind_some,hB]
 exact first_l hB hk N 0 (by omega) (by omega)
theorem of_l2 {k1:Int→List (List Int)→Option (GDfa × Int)} {v4:Int} {v5:List (List Int)} {b:Nat} (hb256:b<256) (hp:p.Sets.length≤1000) (h5:v5.length≤1000):∀(m i:Nat) (acc:List Int),i≤p.Sets.length→p.Sets.length<i+m→acc.length≤i→
 dfa_Of_l2 k1 p v4 v5 b m i acc=k1 (ar .add .i64 v4 1) (v5++[acc++pickF i p.Sets.length (hb p b)]):=by
 intro m
 induction m with
 | zero=>intro i acc h1 h2;omega
 | succ m ih=>
   intro i acc h1 h2 h3
   rw [dfa_Of_l2]
   simp only [cm_lss,ll_eq,cond_dec]
   by_cases c:i<p.Sets.length
   · have eb:hb p b (i:Int)=hs p.Sets[i] b:=by unfold hb;rw [Int.toNat_natCast,List.getElem?_eq_getElem c]
     rw [if_pos (by omega),at_in c,Option.bind_some,has_p hb256,Option.bind_some,inc1 (by omega),pickF_s c,eb]
     cases hs p.Sets[i] b with
     | true=>
       rw [_root_.cond_true,app_eq (by simp;omega),Option.bind_some,Option.bind_some,if_pos rfl,ih (i+1) _ (by omega) (by omega) (by simp;omega),List.append_assoc]
       rfl
     | false=>
       rw [_root_.cond_false,Option.bind_some,if_neg (by simp),ih (i+1) _ (by omega) (by omega) (by omega)]
   · have e:i=p.Sets.length:=by omega
     subst e
     rw [if_neg (by omega),app_eq (by simp;omega),Option.bind_some,pickF_e,List.append_nil]
def bytesOf (B:List Int):List Nat:=(List.range (wide B).toNat).map (leastB B)
theorem of_l1 {B:List Int} (hB:bR B=true) (hp:p.Sets.length≤1000) {N:Nat} (hN:5000≤N):∀(m k:Nat),(k:Int)≤wide B→wide B<k+m→
 dfa_Of_l1 N p B (wide B) m k (((bytesOf B).take k).map (inK p))=(dfa_builder_add_g [] p.None (⟨p,(bytesOf B).map (inK p),[],[],(⟨0,[],B,[]⟩:GDfa)⟩:Gdfa_builder)).bind fun a13=>
  dfa_Of_l3 N N 0 a13.seen a13.p.Sets a13.p.None a13.p.First a13.p.Last a13.p.Next a13.in_ a13.out.Start a13.out.Block a13.sets a13.out.Final a13.out.Next:=by
 have hw:=wide_le B
 have hbl:(bytesOf B).length=(wide B).toNat:=by simp [bytesOf]
 intro m
 induction m with
 | zero=>intro k h1 h2;omega
 | succ m ih=>
   intro k h1 h2
   rw [dfa_Of_l1]
   simp only [cm_lss,cond_dec]
   by_cases c:(k:Int)<wide B
   · have hk:k<(bytesOf B).length:=by omega
     have e1:(bytesOf B)[k]=leastB B k:=by simp [bytesOf]
     rw [if_pos c,first_p hB c hN,Option.bind_some]
     have h:=of_l2 (p:=p) (k1:=dfa_Of_l1 N p B (wide B) m) (v4:=(k:Int)) (v5:=((bytesOf B).take k).map (inK p)) (least_lt hB c).1 hp (by simp;omega) N 0 [] (by omega) (by omega) (by simp)
     have h':dfa_Of_l2 (dfa_Of_l1 N p B (wide B) m) p (k:Int) (((bytesOf B).take k).map (inK p)) (leastB B k:Int) N 0 []=_:=h
     rw [h',inc1 (by omega),List.nil_append,pickF_0]
     have e2:((bytesOf B).take k).map (inK p)++[pickL p.Sets.length (hb p (leastB B k))]=((bytesOf B).take (k+1)).map (inK p):=by
      rw [List.take_add_one,List.getElem?_eq_getElem hk,List.map_append,e1]
      rfl
     rw [e2]
     exact ih (k+1) (by omega) (by omega)
   · rw [if_neg c,List.take_of_length_le (by omega)]
theorem wide_pos {B:List Int} (hB:bR B=true):1≤wide B:=by
 have hl:=(bR_in hB).1
 have:=(bR_in hB).2 B[0] (List.getElem_mem (by omega))
 omega
theorem low1 (hp:Low p):p.Sets.length≤1000:=by have:=hp.sets;omega
theorem dof_p (hp:Low p) (hok:okB p=true) {N:Nat} (hN:5000≤N):dfa_Of_g N p=(ofS p (bytesOf (blkS p.Sets)) N 0 [[]] [p.None] []).map (outS (blkS p.Sets)):=by
 have hB:bR (blkS p.Sets)=true:=(blkS_blk p.Sets).rgt
 have hw:=wide_le (blkS p.Sets)
 have hw1:=wide_pos hB
 have h200:=hp.sets
 have hOk:=Pl.ok_of hp hok
 have hbl:(bytesOf (blkS p.Sets)).length=(wide (blkS p.Sets)).toNat:=by simp [bytesOf]
 unfold dfa_Of_g
 rw [Pl.right_p hp (by omega),hok,Option.bind_some,bof_p (by omega) (by omega) (by omega),Option.bind_some,bcount_p (by rw [(blkS_blk p.Sets).len];omega) (by omega),Option.bind_some]
 have h1:=of_l1 (p:=p) hB (low1 hp) hN N 0 (by omega) (by omega)
 rw [List.take_zero,List.map_nil] at h1
 have h1':dfa_Of_l1 N p (blkS p.Sets) (wide (blkS p.Sets)) N 0 []=_:=h1
 show dfa_Of_l1 N p (blkS p.Sets) (wide (blkS p.Sets)) N 0 []=_
 rw [h1']
 have ha:dfa_builder_add_g [] p.None (⟨p,(bytesOf (blkS p.Sets)).map (inK p),[],[],(⟨0,[],blkS p.Sets,[]⟩:GDfa)⟩:Gdfa_builder)=some (bld p ((bytesOf (blkS p.Sets)).map (inK p)) (blkS p.Sets) [] [[]] [p.None] [[]]):=by
  simp [dfa_builder_add_g,app,bld]
 rw [ha,Option.bind_some]
 exact of_l3 (p:=p) (N:=N) (B:=blkS p.Sets) (bs:=bytesOf (blkS p.Sets)) hOk hN (by omega) (by omega) N 0 [] [[]] [p.None] [] (by simp) rfl ⟨seen_nil,by simp,by simp,by simp,by simp⟩ (fun x hx=>by
  rw [List.mem_singleton] at hx
  rw [hx]
  exact ⟨by simp,fun x h=>by cases h⟩)
end Dq
end Go.Proofs.YtjhbgkakhaonaaaGreatDoor
namespace Go.Proofs.YtjhbgkakhaonaaaGreatDoor
open Go
open Sh Gn
open Pl (pickL mem_pick pick_congr pick_len pickF pickF_0 pickF_s pickF_e Fit Low nextOf Mk mk_0 mk_at mk_set rs rs_in okB fit_pick)
namespace Dq
variable {p:GSpots}
theorem pick_filter {M:Nat} {f g:Int→Bool}:(pickL M f).filter g=pickL M fun x=>f x&&g x:=by
 unfold pickL
 rw [List.filter_filter]
 congr 1
 funext x
 rw [Bool.and_comm]
theorem rowS_len:∀{bs:List Nat} {acc:List Int} {s:List (List Int)} {fi:List Bool} {r:List Int} {z:List (List Int)× List Bool × List Int},s.length≤4096→s≠[]→fi.length=s.length→rowS p acc bs s fi r=some z→z.1.length≤4096∧z.1≠[]∧z.2.1.length=z.1.length∧s.length≤z.1.length∧z.2.2.length=r.length+bs.length
 | [],acc,s,fi,r,z,h1,h2,h3,e=>by cases e;exact ⟨h1,h2,h3,Nat.le_refl _,by simp⟩
 | b ::bs,acc,s,fi,r,z,h1,h2,h3,e=>by
   rw [rowS] at e
   split at e
   · obtain ⟨q1,q2,q3,q4,q5⟩:=rowS_len h1 h2 h3 e
     exact ⟨q1,q2,q3,q4,by rw [q5];simp;omega⟩
   · split at e
     · cases e
     · obtain ⟨q1,q2,q3,q4,q5⟩:=rowS_len (by simp;omega) (by simp) (by simp [h3]) e
       exact ⟨q1,q2,q3,by simp at q4;omega,by rw [q5];simp;omega⟩
theorem rs_mem_gt {many:Int}:∀{l:List Int} {last:Int},rs many last l=true→∀x∈l,last<x
 | [],_,_,x,h=>by cases h
 | y ::l,last,h,x,hx=>by
   rw [rs] at h
   split at h
   · cases h
   · rcases List.mem_cons.1 hx with rfl | hx
     · omega
     · have:=rs_mem_gt h x hx
       omega
theorem rs_can:∀{l:List Int} {M:Nat} {i:Nat},rs (M:Int) ((i:Int)-1) l=true→i≤M→l=pickF i M fun x=>decide (x∈l):=by
 intro l M i
 generalize hd:M-i=d
 induction d generalizing l i with
 | zero=>
   intro h hi
   have e:i=M:=by omega
   subst e
   rw [pickF_e]
   cases l with
   | nil=>rfl
   | cons x l=>
     rw [rs] at h
     split at h
     · cases h
     · omega
 | succ d ih=>
   intro h hi
   rw [pickF_s (by omega)]
   cases l with
   | nil=>
     have:=ih (l:=[]) (i:=i+1) (by omega) rfl (by omega)
     simpa using this
   | cons x l=>
     rw [rs] at h
     split at h
     · cases h
     · rename_i g
       by_cases e:x=(i:Int)
       · subst e
         have h':rs (M:Int) (((i+1:Nat):Int)-1) l=true:=by rw [show (((i+1:Nat):Int)-1)=(i:Int) by omega];exact h
         have h2:=ih (l:=l) (i:=i+1) (by omega) h' (by omega)
         rw [if_pos (by simp)]
         congr 1
         refine Eq.trans h2 ?_
         unfold pickF
         refine List.filter_congr fun y hy=>?_
         obtain ⟨z,hz,rfl⟩:=List.mem_map.1 hy
         have hz2:i+1≤z:=by
          obtain ⟨q,hq1,hq2⟩:=List.mem_iff_getElem.1 hz
          simp at hq2
          omega
         rw [decide_eq_decide,List.mem_cons]
         exact ⟨.inr,fun h=>h.resolve_left (by intro e;have:(z:Int)=(i:Int):=e;omega)⟩
       · have h':rs (M:Int) (((i+1:Nat):Int)-1) (x::l)=true:=by rw [rs,if_neg (by omega)];exact h
         have h2:=ih (l:=x::l) (i:=i+1) (by omega) h' (by omega)
         rw [if_neg (by
          simp only [decide_eq_true_eq,List.mem_cons,not_or]
          refine ⟨fun h=>e h.symm,fun hm=>?_⟩
          have:=rs_mem_gt h _ hm
          omega)]
         exact h2
end Dq
end Go.Proofs.YtjhbgkakhaonaaaGreatDoor
namespace Go.Proofs.YtjhbgkakhaonaaaGreatDoor
open Go
open Sh Gn
open Pl (pickL mem_pick pick_congr pick_len pickF pickF_0 pickF_s pickF_e Fit Low nextOf Mk mk_0 mk_at mk_set rs rs_in okB fit_pick)
namespace Dq
variable {p:GSpots}
theorem ofS_some {bs:List Nat}:∀(m n:Nat) (s:List (List Int)) (fi:List Bool) (rows:List (List Int)),s≠[]→n≤s.length→rows.length=n→s.length≤4096→fi.length=s.length→(∀r∈rows,r.length=bs.length)→4096<n+m→
 ∃z,ofS p bs m n s fi rows=some z∧∀s' fi' nx',z=some (s',fi',nx')→s'.length≤4096∧fi'.length=s'.length∧nx'.length=s'.length∧∀r∈nx',r.length=bs.length:=by
 intro m
 induction m with
 | zero=>intro n s fi rows h0 h1 h2 h3 h4 h5 h6;omega
 | succ m ih=>
   intro n s fi rows h0 h1 h2 h3 h4 h5 h6
   rw [ofS]
   by_cases c:n<s.length
   · rw [List.getElem?_eq_getElem c]
     simp only
     cases hr:rowS p (may p n s[n]) bs s fi [] with
     | none=>exact ⟨none,rfl,fun _ _ _ h=>by cases h⟩
     | some z=>
       obtain ⟨s',fi',r'⟩:=z
       obtain ⟨q1,q2,q3,q4,q5⟩:=rowS_len h3 h0 h4 hr
       simp only
       refine ih (n+1) s' fi' (rows++[r']) q2 (by simp at q4;omega) (by simp [h2]) q1 q3 (fun r hm=>?_) (by omega)
       rcases List.mem_append.1 hm with hm | hm
       · exact h5 r hm
       · rw [List.mem_singleton] at hm
         rw [hm,q5]
         simp
   · rw [List.getElem?_eq_none (by omega)]
     refine ⟨_,rfl,fun s' fi' nx' h=>?_⟩
     cases h
     exact ⟨h3,h4,by omega,h5⟩
end Dq
end Go.Proofs.YtjhbgkakhaonaaaGreatDoor
namespace Go.Proofs.YtjhbgkakhaonaaaGreatDoor
open Go
open Sh Gn
namespace Dq
theorem bR_get {B:List Int} (hB:bR B=true) (b:UInt8):B[b.toNat]?=some (B.getD b.toNat 0)∧0≤B.getD b.toNat 0∧B.getD b.toNat 0<wide B:=by
 obtain ⟨hb1,hb2⟩:=bR_in hB
 have hc:=b.toNat_lt
 have e:B[b.toNat]?=some (B[b.toNat]'(by omega)):=List.getElem?_eq_getElem (by omega)
 have e2:B.getD b.toNat 0=B[b.toNat]'(by omega):=by rw [List.getD_eq_getElem?_getD,e];rfl
 rw [e2]
 have:=hb2 _ (List.getElem_mem (show b.toNat<B.length by omega))
 exact ⟨e,this.1,this.2.1⟩
variable {w:List UInt8} {B:List Int}
theorem data_inj {a b:ByteArray}:a=b↔a.data.toList=b.data.toList:=by
 constructor
 · intro h;rw [h]
 · intro h
   cases a;cases b
   congr 1
   exact Array.toList_inj.1 h
end Dq
end Go.Proofs.YtjhbgkakhaonaaaGreatDoor
namespace Go.Proofs.YtjhbgkakhaonaaaGreatDoor
open Go
open Sh Gn
open Pl (pickL mem_pick pick_congr pick_len pickF pickF_0 pickF_s pickF_e Fit Low nextOf Mk mk_0 mk_at mk_set rs rs_in okB fit_pick nowL stepL runL matchB hasB)
namespace Dq
variable {p:GSpots}
def RowOk (p:GSpots) (acc:List Int) (bs:List Nat) (s:List (List Int)) (t:List Int):Prop:=
 t.length=bs.length∧∀k b:Nat,bs[k]?=some b→∃j:Nat,t[k]?=some (j:Int)∧s[j]?=some (setK p acc b)∧1≤j
theorem RowOk.ext {acc:List Int} {bs:List Nat} {s e:List (List Int)} {t:List Int} (h:RowOk p acc bs s t):RowOk p acc bs (s++e) t:=by
 refine ⟨h.1,fun k b hb=>?_⟩
 obtain ⟨j,h1,h2,h3⟩:=h.2 k b hb
 obtain ⟨hl,-⟩:=List.getElem?_eq_some_iff.1 h2
 exact ⟨j,h1,by rw [List.getElem?_append_left hl];exact h2,h3⟩
theorem rowS_ok:∀{bs:List Nat} {acc:List Int} {s:List (List Int)} {fi:List Bool} {r:List Int} {z:List (List Int)× List Bool × List Int},s≠[]→rowS p acc bs s fi r=some z→∃e t,z=(s++e,fi++e.map (tk p),r++t)∧RowOk p acc bs (s++e) t
 | [],acc,s,fi,r,z,h0,h=>by
   cases h
   exact ⟨[],[],by simp,rfl,fun k b hb=>by cases hb⟩
 | b ::bs,acc,s,fi,r,z,h0,h=>by
   rw [rowS] at h
   split at h
   · rename_i j hj
     obtain ⟨j1,j2,j3⟩:=fnd_some hj
     obtain ⟨e,t,rfl,q1,q2⟩:=rowS_ok h0 h
     refine ⟨e,(j:Int)::t,by simp,by simp [q1],fun k c hc=>?_⟩
     cases k with
     | zero=>
       cases hc
       exact ⟨j,rfl,by rw [List.getElem?_append_left j2];exact j3,j1⟩
     | succ k=>exact q2 k c hc
   · split at h
     · cases h
     · obtain ⟨e,t,rfl,q1,q2⟩:=rowS_ok (by simp) h
       refine ⟨setK p acc b::e,(s.length:Int)::t,by simp,by simp [q1],fun k c hc=>?_⟩
       cases k with
       | zero=>
         cases hc
         exact ⟨s.length,rfl,by simp,List.length_pos_iff.2 h0⟩
       | succ k=>
         have:=q2 k c hc
         simpa using this
structure Made (p:GSpots) (bs:List Nat) (s:List (List Int)) (fi:List Bool) (rows:List (List Int)):Prop where
 first:∃t,s=[]::t∧fi=p.None::t.map (tk p)
 rows:∀i t x,rows[i]?=some t→s[i]?=some x→RowOk p (may p i x) bs s t
theorem ofS_made {bs:List Nat}:∀(m n:Nat) (s:List (List Int)) (fi:List Bool) (rows:List (List Int)) (s':List (List Int)) (fi':List Bool) (nx':List (List Int)),rows.length=n→n≤s.length→Made p bs s fi rows→ofS p bs m n s fi rows=some (some (s',fi',nx'))→Made p bs s' fi' nx':=by
 intro m
 induction m with
 | zero=>intro n s fi rows s' fi' nx' h1 h2 h3 h4;cases h4
 | succ m ih=>
   intro n s fi rows s' fi' nx' h1 h2 h3 h4
   rw [ofS] at h4
   cases hx:s[n]? with
   | none=>
     rw [hx] at h4
     cases h4
     exact h3
   | some x=>
     rw [hx] at h4
     simp only at h4
     cases hr:rowS p (may p n x) bs s fi [] with
     | none=>rw [hr] at h4;cases h4
     | some z=>
       rw [hr] at h4
       obtain ⟨t0,e0,e1⟩:=h3.first
       obtain ⟨e,t,rfl,q⟩:=rowS_ok (by rw [e0];simp) hr
       simp only [List.nil_append] at h4
       refine ih (n+1) _ _ _ s' fi' nx' (by simp [h1]) (by obtain ⟨hl,-⟩:=List.getElem?_eq_some_iff.1 hx;simp;omega) ⟨⟨t0++e,by rw [e0];rfl,by rw [e1];simp⟩,fun i t' x' hi hx'=>?_⟩ h4
       by_cases c:i<rows.length
       · rw [List.getElem?_append_left c] at hi
         have hi2:i<s.length:=by omega
         rw [List.getElem?_append_left hi2] at hx'
         exact (h3.rows i t' x' hi hx').ext
       · have hc:i=n:=by
          obtain ⟨hl,-⟩:=List.getElem?_eq_some_iff.1 hi
          simp at hl
          omega
         subst hc
         rw [List.getElem?_append_right (by omega),h1,Nat.sub_self] at hi
         cases hi
         obtain ⟨hl,-⟩:=List.getElem?_eq_some_iff.1 hx
         rw [List.getElem?_append_left hl,hx] at hx'
         cases hx'
         exact q
theorem least_same {l:List CSet} {c:UInt8} {S:CSet} (hS:S∈l):hs S (leastB (blkS l) ((blkS l).getD c.toNat 0).toNat)=hs S c.toNat:=by
 have hB:bR (blkS l)=true:=(blkS_blk l).rgt
 obtain ⟨h1,h2,h3⟩:=bR_get hB c
 have hc:=c.toNat_lt
 generalize hk:(blkS l).getD c.toNat 0=k at h1 h2 h3
 obtain ⟨k',rfl⟩:=Int.eq_ofNat_of_zero_le h2
 obtain ⟨g1,g2,g3⟩:=least_lt hB h3
 rw [Int.toNat_natCast]
 rcases Nat.lt_trichotomy (leastB (blkS l) k') c.toNat with g | g | g
 · exact (blkS_same g (by omega) g2 h1).1 rfl S hS
 · rw [g]
 · exact ((blkS_same g (by omega) h1 g2).1 rfl S hS).symm
theorem least_col {acc:List Int} {c:UInt8}:setK p acc (leastB (blkS p.Sets) ((blkS p.Sets).getD c.toNat 0).toNat)=pickL p.Sets.length fun x=>decide (x∈acc)&&hasB p c x:=by
 unfold setK
 refine pick_congr fun x h0 h1=>?_
 congr 1
 unfold hb hasB
 obtain ⟨S,-,q2⟩:=at_int (l:=p.Sets) h0 h1
 rw [q2]
 exact least_same (List.mem_of_getElem? q2)
variable {s':List (List Int)} {fi':List Bool} {nx':List (List Int)}
theorem made_step (hM:Made p (bytesOf (blkS p.Sets)) s' fi' nx') {n:Nat} {x t:List Int} (hx:s'[n]?=some x) (ht:nx'[n]?=some t) (c:UInt8):∃j:Nat,stp ⟨0,fi',blkS p.Sets,nx'⟩ n c=(j:Int)∧1≤j∧s'[j]?=some (pickL p.Sets.length fun y=>decide (y∈may p n x)&&hasB p c y):=by
 have hB:bR (blkS p.Sets)=true:=(blkS_blk p.Sets).rgt
 obtain ⟨h1,h2,h3⟩:=bR_get hB c
 have hr:=(hM.rows n t x ht hx).2 ((blkS p.Sets).getD c.toNat 0).toNat (leastB (blkS p.Sets) ((blkS p.Sets).getD c.toNat 0).toNat) (by
  unfold bytesOf
  rw [List.getElem?_map,List.getElem?_range (by omega)]
  rfl)
 obtain ⟨j,q1,q2,q3⟩:=hr
 refine ⟨j,?_,q3,by rw [q2,least_col]⟩
 unfold stp
 rw [Int.toNat_natCast,List.getD_eq_getElem?_getD (l:=nx'),ht,Option.getD_some,List.getD_eq_getElem?_getD,q1]
 rfl
theorem made_fin (hM:Made p (bytesOf (blkS p.Sets)) s' fi' nx') {n:Nat} {x:List Int} (hn:1≤n) (hx:s'[n]?=some x):fi'.getD n false=tk p x:=by
 obtain ⟨t,rfl,rfl⟩:=hM.first
 obtain ⟨m,rfl⟩:=Nat.exists_eq_add_of_le' hn
 rw [List.getElem?_cons_succ] at hx
 rw [List.getD_eq_getElem?_getD,List.getElem?_cons_succ,List.getElem?_map,hx]
 rfl
theorem made_runs (hM:Made p (bytesOf (blkS p.Sets)) s' fi' nx') (hl:nx'.length=s'.length):∀(w:List UInt8) (n:Nat) (x:List Int),1≤n→s'[n]?=some x→∃j:Nat,runs ⟨0,fi',blkS p.Sets,nx'⟩ n w=(j:Int)∧1≤j∧s'[j]?=some (runL p w (stepL p x) x)
 | [],n,x,hn,hx=>⟨n,rfl,hn,hx⟩
 | c::w,n,x,hn,hx=>by
   obtain ⟨hlt,-⟩:=List.getElem?_eq_some_iff.1 hx
   obtain ⟨j,q1,q2,q3⟩:=made_step hM hx (List.getElem?_eq_getElem (show n<nx'.length by omega)) c
   have e:(pickL p.Sets.length fun y=>decide (y∈may p n x)&&hasB p c y)=nowL p c (stepL p x):=by
    unfold nowL stepL
    rw [pick_filter]
    refine pick_congr fun y _ _=>?_
    unfold may
    rw [if_neg (by omega),List.nil_append]
   rw [e] at q3
   obtain ⟨i,r1,r2,r3⟩:=made_runs hM hl w j _ q2 q3
   refine ⟨i,?_,r2,r3⟩
   show runs ⟨0,fi',blkS p.Sets,nx'⟩ (stp ⟨0,fi',blkS p.Sets,nx'⟩ n c) w=_
   rw [q1,r1]
theorem made_match (hok:okB p=true) (hM:Made p (bytesOf (blkS p.Sets)) s' fi' nx') (hl:nx'.length=s'.length) (s:ByteArray):fi'.getD (runs ⟨0,fi',blkS p.Sets,nx'⟩ 0 s.data.toList).toNat false=matchB p s:=by
 have hf:rs p.Sets.length (-1) p.First=true:=by
  have hok:=hok
  unfold Pl.okB at hok
  simp only [Bool.and_eq_true] at hok
  exact hok.2.2.1
 obtain ⟨t,e1,e2⟩:=hM.first
 unfold matchB
 rw [hok,if_pos rfl]
 by_cases h:s=ByteArray.empty
 · rw [if_pos h,h,e2]
   rfl
 · rw [if_neg h]
   cases hw:s.data.toList with
   | nil=>
     refine absurd ?_ h
     rw [data_inj,hw]
     rfl
   | cons c w=>
     have hx:s'[0]?=some []:=by rw [e1];rfl
     have hlt:0<nx'.length:=by rw [hl,e1];simp
     obtain ⟨j,q1,q2,q3⟩:=made_step hM hx (List.getElem?_eq_getElem hlt) c
     have e:(pickL p.Sets.length fun y=>decide (y∈may p 0 [])&&hasB p c y)=nowL p c p.First:=by
      have h1:may p 0 []=p.First:=by simp [may]
      have h2:p.First=pickL p.Sets.length fun x=>decide (x∈p.First):=rs_can (i:=0) hf (by omega)
      rw [h1]
      unfold nowL
      conv=>rhs;rw [h2]
      rw [pick_filter]
     rw [e] at q3
     obtain ⟨i,r1,r2,r3⟩:=made_runs hM hl w j _ q2 q3
     have e3:runs ⟨0,fi',blkS p.Sets,nx'⟩ 0 (c::w)=(i:Int):=by
      show runs ⟨0,fi',blkS p.Sets,nx'⟩ (stp ⟨0,fi',blkS p.Sets,nx'⟩ (0:Nat) c) w=_
      rw [q1,r1]
     rw [e3,Int.toNat_natCast,made_fin hM r2 r3,runL]
     rfl
theorem made_dR (hM:Made p (bytesOf (blkS p.Sets)) s' fi' nx') (hl:nx'.length=s'.length) (h4:s'.length≤4096):dR ⟨0,fi',blkS p.Sets,nx'⟩=true:=by
 have hB:bR (blkS p.Sets)=true:=(blkS_blk p.Sets).rgt
 have hwp:=wide_pos hB
 obtain ⟨t,e1,e2⟩:=hM.first
 have hpos:1≤s'.length:=by rw [e1];simp
 have hfl:fi'.length=s'.length:=by rw [e1,e2];simp
 simp only [dR,Bool.and_eq_true,Bool.not_eq_true',decide_eq_false_iff_not,decide_eq_true_eq,List.all_eq_true,inR,hl]
 refine ⟨by omega,by omega,by omega,by omega,by omega,by omega,fun r hr=>?_⟩
 obtain ⟨i,hi,rfl⟩:=List.mem_iff_getElem.1 hr
 obtain ⟨q1,q2⟩:=hM.rows i nx'[i] (s'[i]'(by omega)) (List.getElem?_eq_getElem hi) (List.getElem?_eq_getElem (by omega))
 have hbl:(bytesOf (blkS p.Sets)).length=(wide (blkS p.Sets)).toNat:=by simp [bytesOf]
 refine ⟨by omega,fun x hx=>?_⟩
 obtain ⟨k,hk,rfl⟩:=List.mem_iff_getElem.1 hx
 obtain ⟨j,r1,r2,r3⟩:=q2 k _ (List.getElem?_eq_getElem (show k<(bytesOf (blkS p.Sets)).length by omega))
 rw [List.getElem?_eq_getElem hk] at r1
 obtain ⟨hlt,-⟩:=List.getElem?_eq_some_iff.1 r2
 have:=Option.some.inj r1
 omega
theorem made_of (hok:okB p=true) (hlow:Low p) {N:Nat} (hN:5000≤N):dfa_Of_g N p=some (⟨0,[],[],[]⟩,16)∨∃d,dfa_Of_g N p=some (d,0)∧LowD d∧dR d=true∧∀s,runB d s.data.toList=matchB p s:=by
 obtain ⟨z,q1,q2⟩:=ofS_some (p:=p) (bs:=bytesOf (blkS p.Sets)) N 0 [[]] [p.None] [] (by simp) (by simp) rfl (by simp) rfl (by simp) (by omega)
 rw [dof_p hlow hok hN,q1]
 match z,q1,q2 with
 | none,q1,_=>exact .inl rfl
 | some (s',fi',nx'),q1,q2=>
   obtain ⟨a1,a2,a3,a4⟩:=q2 s' fi' nx' rfl
   have hM:=ofS_made N 0 [[]] [p.None] [] s' fi' nx' rfl (by simp) ⟨⟨[],rfl,rfl⟩,fun i t x hi=>by cases hi⟩ q1
   have hbl:(bytesOf (blkS p.Sets)).length=(wide (blkS p.Sets)).toNat:=by simp [bytesOf]
   have hw:=wide_le (blkS p.Sets)
   have hb:=(blkS_blk p.Sets).len
   refine .inr ⟨⟨0,fi',blkS p.Sets,nx'⟩,rfl,⟨by simp only;omega,by simp only;omega,by simp only;omega,fun l hl=>by have:=a4 l hl;omega⟩,made_dR hM a3 a1,fun s=>?_⟩
   unfold runB
   rw [made_dR hM a3 a1,Bool.true_and]
   exact made_match hok hM a3 s
end Dq
end Go.Proofs.YtjhbgkakhaonaaaGreatDoor
