/- Texts that the proof leans on. -/
import Derived.Test.YtjhbgkakhaonaaaGreatDoorK234
set_option linter.unusedVariables false
set_option linter.unusedSimpArgs false
set_option maxRecDepth 100000
set_option maxHeartbeats 4000000
namespace Go.Proofs.YtjhbgkakhaonaaaGreatDoor
open Go
open Sh Gn
open Pl (pickL mem_pick pick_congr pick_len pickF pickF_0 pickF_s pickF_e Fit Low nextOf Mk mk_0 mk_at mk_set Can can_nil in_p join_p rs rs_in okB fit_pick)
namespace Dq
variable {p:GSpots}
theorem set_rep {α:Type} {z:α} {r:List α} {W k:Nat} {n:α} (hr:r.length=k) (hk:k<W):(r++List.replicate (W-k) z).set k n=(r++[n])++List.replicate (W-(k+1)) z:=by
 rw [List.set_append_right _ _ (by omega),hr,Nat.sub_self,show W-k=(W-(k+1))+1 by omega,List.replicate_succ]
 simp
theorem step_l6 {N:Nat} {s0:Gdfa_builder} {n:Nat} {B:List Int} {v11:List Bool} {acc:List Int} {bs:List Nat} (hp:Low p) (hlast:p.Last.length≤1000) (hN:5000≤N) (hin:s0.in_=bs.map (inK p)) (hv:Mk p.Sets.length v11 acc) (hb1:1≤bs.length) (hb2:bs.length≤256):∀(m k:Nat) (seen:List (ByteArray × Int)) (s:List (List Int)) (fi:List Bool) (nx:List (List Int)) (r:List Int),
 k≤bs.length→bs.length<k+m→r.length=k→Bs p seen s fi nx→n<nx.length→
 match rowS p acc (bs.drop k) s fi r with
 | none=>∃d,dfa_builder_step_l6 N n s0 v11 m k p.Sets p.None p.First p.Last p.Next (bs.map (inK p)) 0 B seen s fi nx (r++List.replicate (bs.length-k) 0)=some (false,d)
 | some (s',fi',r')=>∃seen' nx',Bs p seen' s' fi' nx'∧s.length≤s'.length∧nx'=(nx++List.replicate (s'.length-s.length) []).set n r'∧
  dfa_builder_step_l6 N n s0 v11 m k p.Sets p.None p.First p.Last p.Next (bs.map (inK p)) 0 B seen s fi nx (r++List.replicate (bs.length-k) 0)=some (true,bld p (bs.map (inK p)) B seen' s' fi' nx'):=by
 have hM:=hp.sets
 intro m
 induction m with
 | zero=>intro k seen s fi nx r h1 h2;omega
 | succ m ih=>
   intro k seen s fi nx r h1 h2 hr hB hn
   rw [dfa_builder_step_l6,hin]
   simp only [cm_lss,ll_eq,cond_dec,List.length_map]
   by_cases c:k<bs.length
   · have hk:(k:Int)<(bs.length:Int):=by omega
     have hat:at_ (bs.map (inK p)) (k:Int)=some (inK p bs[k]):=by rw [at_nat,List.getElem?_map,List.getElem?_eq_getElem c];rfl
     have hz:zro cB false (v11.length:Int) (v11.length:Int)=some (List.replicate p.Sets.length false):=by rw [zro_eq (by rw [hv.1];omega),hv.1]
     simp only [hk,if_true,hat,Option.bind_some,hz]
     have h7:=step_l7 (p:=p) (N:=N) (k6:=dfa_builder_step_l6 N n s0 v11 m) (k:=k) (inn:=bs.map (inK p)) (B:=B) (seen:=seen) (s:=s) (fi:=fi) (nx:=nx) (row:=r++List.replicate (bs.length-k) 0) (v11:=v11) (acc:=acc) (b:=bs[k]) hp hlast hN hB hv (by simp;omega) (by simp;omega) N 0 (List.replicate p.Sets.length false) [] (by omega) (by have:=pick_len (many:=p.Sets.length) (f:=hb p bs[k]);unfold inK;omega) mk_0 (fun y h=>by cases h) (fun x=>by
      rw [List.nil_append,List.drop_zero,List.mem_filter,inK,mem_pick,setK,mem_pick,Bool.and_eq_true]
      exact ⟨fun h=>⟨h.1.1,h.2,h.1.2⟩,fun h=>⟨⟨h.1,h.2.2⟩,h.2.1⟩⟩)
     rw [List.drop_eq_getElem_cons c,rowS]
     cases hf:fnd s (setK p acc bs[k]) with
     | some j=>
       rw [hf] at h7
       simp only at h7 ⊢
       have h7':dfa_builder_step_l7 N (dfa_builder_step_l6 N n s0 v11 m) (k:Int) p.First (inK p bs[k]) p.Last p.Sets p.None p.Next (bs.map (inK p)) 0 B seen s fi nx (r++List.replicate (bs.length-k) 0) v11 N 0 (List.replicate p.Sets.length false)=_:=h7
       rw [h7',set_rep hr c]
       exact ih (k+1) seen s fi nx (r++[(j:Int)]) (by omega) (by omega) (by simp [hr]) hB hn
     | none=>
       rw [hf] at h7
       simp only at h7 ⊢
       by_cases g:4096≤s.length
       · rw [if_pos g] at h7 ⊢
         exact h7
       · rw [if_neg g] at h7 ⊢
         obtain ⟨seen',q1,q2⟩:=h7
         have q2':dfa_builder_step_l7 N (dfa_builder_step_l6 N n s0 v11 m) (k:Int) p.First (inK p bs[k]) p.Last p.Sets p.None p.Next (bs.map (inK p)) 0 B seen s fi nx (r++List.replicate (bs.length-k) 0) v11 N 0 (List.replicate p.Sets.length false)=_:=q2
         rw [q2',set_rep hr c]
         have h:=ih (k+1) seen' _ _ _ (r++[(s.length:Int)]) (by omega) (by omega) (by simp [hr]) q1 (by simp;omega)
         revert h
         cases rowS p acc (bs.drop (k+1)) (s++[setK p acc bs[k]]) (fi++[tk p (setK p acc bs[k])]) (r++[(s.length:Int)]) with
         | none=>exact fun h=>h
         | some z=>
           obtain ⟨s',fi',r'⟩:=z
           rintro ⟨seen2,nx2,h1,h2,h3,h4⟩
           simp only [List.length_append,List.length_cons,List.length_nil] at h2 h3
           refine ⟨seen2,nx2,h1,by omega,?_,h4⟩
           rw [h3,List.append_assoc]
           congr 2
           rw [show s'.length-s.length=(s'.length-(s.length+1))+1 by omega,List.replicate_succ]
           rfl
   · have hk:¬(k:Int)<(bs.length:Int):=by omega
     have e:k=bs.length:=by omega
     have hrl:r.length=bs.length:=by omega
     rw [List.drop_of_length_le (by omega),rowS]
     simp only [hk,if_false]
     refine ⟨seen,nx.set n r,⟨hB.seen,hB.ne,hB.le,hB.fin,by rw [List.length_set];exact hB.nx⟩,Nat.le_refl _,by simp,?_⟩
     have e0:r++List.replicate (bs.length-k) (0:Int)=r:=by rw [e,Nat.sub_self];simp
     rw [e0,zro_eq (by omega),Option.bind_some,at_in hn]
     have hc:cpy (cI .i64) (List.replicate r.length (0:Int)) r=some r:=by
      unfold cpy
      rw [if_pos ⟨by intro h;have:=congrArg List.length h;simp at this;simp [this] at hrl;omega,by intro h;rw [h] at hrl;simp at hrl;omega⟩]
      simp
     simp only [Option.bind_some,hc,put,Int.toNat_natCast]
     rfl
theorem step_l3 {N:Nat} {s0:Gdfa_builder} {n:Nat} {x acc0:List Int} (hs0:s0.p=p) (hp:Pl.Ok p) (hN:5000≤N) (hx:Fit p x):∀(m i:Nat) (v:List Bool),i≤x.length→x.length<i+m→Mk p.Sets.length v (acc0++(x.take i).flatMap (nextOf p))→
 ∃ v',Mk p.Sets.length v' (acc0++x.flatMap (nextOf p))∧dfa_builder_step_l3 N n s0 x m i v=
   (zro (cI .i64) 0 (ll (rw _ (cLs (cI .i64)) s0.in_)) (ll (rw _ (cLs (cI .i64)) s0.in_))).bind fun l20=>dfa_builder_step_l6 N n s0 v' N 0 s0.p.Sets s0.p.None s0.p.First s0.p.Last s0.p.Next s0.in_ s0.out.Start s0.out.Block s0.seen s0.sets s0.out.Final s0.out.Next l20:=by
 have h200:=hx.1
 intro m
 induction m with
 | zero=>intro i v h1 h2;omega
 | succ m ih=>
   intro i v h1 h2 hv
   rw [dfa_builder_step_l3]
   simp only [cm_lss,cond_dec]
   rw [show ll (rw Int (cI .i64) x)=(x.length:Int) from ll_eq]
   by_cases c:i<x.length
   · have hxi:=hx.2 _ (List.getElem_mem c)
     obtain ⟨q1,q2⟩:=hp.next_at hxi
     have q1':at_ s0.p.Next x[i]=some (nextOf p x[i]):=by rw [hs0];exact q1
     rw [if_pos (by omega),at_in c,Option.bind_some,q1',Option.bind_some]
     obtain ⟨v',h3,h4⟩:=step_l5 (p:=p) (k3:=dfa_builder_step_l3 N n s0 x m) (v10:=(i:Int)) q2 N 0 v _ (by omega) (by have:=q2.1;omega) hv
     have h4':dfa_builder_step_l5 (dfa_builder_step_l3 N n s0 x m) (i:Int) (nextOf p x[i]) N 0 v=_:=h4
     rw [h4',inc1 (by omega)]
     refine ih (i+1) v' (by omega) (by omega) ?_
     rw [List.drop_zero] at h3
     rw [List.take_add_one,List.getElem?_eq_getElem c,List.flatMap_append,←List.append_assoc]
     simpa using h3
   · rw [if_neg (by omega)]
     refine ⟨v,?_,rfl⟩
     rw [List.take_of_length_le (by omega)] at hv
     exact hv
theorem step_p {N:Nat} {n:Nat} {B:List Int} {bs:List Nat} {seen:List (ByteArray × Int)} {s:List (List Int)} {fi:List Bool} {nx:List (List Int)} {x:List Int} (hp:Pl.Ok p) (hN:5000≤N) (hb1:1≤bs.length) (hb2:bs.length≤256) (hB:Bs p seen s fi nx) (hx:s[n]?=some x) (hfit:Fit p x):
 match rowS p (may p n x) bs s fi [] with
 | none=>∃d,dfa_builder_step_g N n (bld p (bs.map (inK p)) B seen s fi nx)=some (false,d)
 | some (s',fi',r')=>∃seen' nx',Bs p seen' s' fi' nx'∧s.length≤s'.length∧nx'=(nx++List.replicate (s'.length-s.length) []).set n r'∧
  dfa_builder_step_g N n (bld p (bs.map (inK p)) B seen s fi nx)=some (true,bld p (bs.map (inK p)) B seen' s' fi' nx'):=by
 have hM:=hp.low.sets
 have hlast:=hp.low.last
 have hn:n<s.length:=(List.getElem?_eq_some_iff.1 hx).1
 unfold dfa_builder_step_g
 have ez:zro cB false (ll (rw _ cSet (bld p (bs.map (inK p)) B seen s fi nx).p.Sets)) (ll (rw _ cSet (bld p (bs.map (inK p)) B seen s fi nx).p.Sets))=some (List.replicate p.Sets.length false):=by
  rw [ll_eq];exact zro_eq (by show p.Sets.length≤_;omega)
 rw [ez,Option.bind_some]
 have first:∃v,Mk p.Sets.length v (if n=0 then p.First else [])∧(cond (cm .eql (n:Int) 0) (dfa_builder_step_l2 (bld p (bs.map (inK p)) B seen s fi nx) N 0 (List.replicate p.Sets.length false)) (some (List.replicate p.Sets.length false)):Option (List Bool))=some v:=by
  rw [cm_eql,cond_dec]
  by_cases e:n=0
  · subst e
    rw [if_pos rfl,if_pos (show ((0:Nat):Int)=0 from rfl)]
    obtain ⟨v,h1,h2⟩:=step_l2 (s0:=bld p (bs.map (inK p)) B seen s fi nx) hp.first N 0 _ [] (by omega) (by have:=hp.first.1;show p.First.length<_;omega) mk_0
    exact ⟨v,h1,h2⟩
  · rw [if_neg e,if_neg (by omega)]
    exact ⟨_,mk_0,rfl⟩
 obtain ⟨v,hv,ev⟩:=first
 rw [ev,Option.bind_some]
 have es:at_ (bld p (bs.map (inK p)) B seen s fi nx).sets (n:Int)=some x:=by rw [at_nat];exact hx
 rw [es]
 simp only [Option.bind_some]
 obtain ⟨v',h1,h2⟩:=step_l3 (s0:=bld p (bs.map (inK p)) B seen s fi nx) (n:=n) rfl hp hN hfit N 0 v (by omega) (by have:=hfit.1;omega) (by rw [List.take_zero,List.flatMap_nil,List.append_nil];exact hv)
 have h2':dfa_builder_step_l3 N (n:Int) (bld p (bs.map (inK p)) B seen s fi nx) x N 0 v=_:=h2
 rw [h2']
 have el:zro (cI .i64) (0:Int) (ll (rw _ (cLs (cI .i64)) (bld p (bs.map (inK p)) B seen s fi nx).in_)) (ll (rw _ (cLs (cI .i64)) (bld p (bs.map (inK p)) B seen s fi nx).in_))=some (List.replicate bs.length 0):=by
  rw [ll_eq,show (bld p (bs.map (inK p)) B seen s fi nx).in_.length=bs.length from List.length_map _]
  exact zro_eq (by omega)
 rw [el,Option.bind_some]
 exact step_l6 (p:=p) (N:=N) (s0:=bld p (bs.map (inK p)) B seen s fi nx) (n:=n) (B:=B) (v11:=v') (acc:=may p n x) (bs:=bs) hp.low (by omega) hN rfl h1 hb1 hb2 N 0 seen s fi nx [] (by omega) (by omega) rfl hB (by rw [hB.nx];exact hn)
theorem rowS_fit:∀{bs:List Nat} {acc:List Int} {s:List (List Int)} {fi:List Bool} {r:List Int} {z:List (List Int)× List Bool × List Int},Low p→(∀x∈s,Fit p x)→rowS p acc bs s fi r=some z→∀x∈z.1,Fit p x
 | [],acc,s,fi,r,z,_,h,e=>by cases e;exact h
 | b ::bs,acc,s,fi,r,z,hl,h,e=>by
   rw [rowS] at e
   split at e
   · exact rowS_fit hl h e
   · split at e
     · cases e
     · refine rowS_fit hl (fun x hx=>?_) e
       rcases List.mem_append.1 hx with hx | hx
       · exact h x hx
       · rw [List.mem_singleton] at hx
         rw [hx]
         exact fit_pick hl
def outS (B:List Int):Option (List (List Int)× List Bool × List (List Int))→GDfa × Int
 | none=>(⟨0,[],[],[]⟩,16)
 | some (_,fi,nx)=>(⟨0,fi,B,nx⟩,0)
theorem of_l3 {N:Nat} {B:List Int} {bs:List Nat} (hp:Pl.Ok p) (hN:5000≤N) (hb1:1≤bs.length) (hb2:bs.length≤256):∀(m n:Nat) (seen:List (ByteArray × Int)) (s:List (List Int)) (fi:List Bool) (rows:List (List Int)),
 n≤s.length→rows.length=n→Bs p seen s fi (rows++List.replicate (s.length-n) [])→(∀x∈s,Fit p x)→
 dfa_Of_l3 N m n seen p.Sets p.None p.First p.Last p.Next (bs.map (inK p)) 0 B s fi (rows++List.replicate (s.length-n) [])=(ofS p bs m n s fi rows).map (outS B):=by
 intro m
 induction m with
 | zero=>intro n seen s fi rows h1 h2 h3 h4;rfl
 | succ m ih=>
   intro n seen s fi rows h1 h2 hB hfit
   have h4096:=hB.le
   rw [dfa_Of_l3,ofS]
   simp only [cm_lss,ll_eq,cond_dec]
   by_cases c:n<s.length
   · have hlen:(n:Int)<((rows++List.replicate (s.length-n) ([]:List Int)).length:Int):=by simp;omega
     have hx:=List.getElem?_eq_getElem c
     have hst:=step_p (p:=p) (N:=N) (n:=n) (B:=B) hp hN hb1 hb2 hB hx (hfit _ (List.getElem_mem c))
     rw [if_pos hlen,hx]
     simp only
     have hbd:(⟨(⟨p.Sets,p.None,p.First,p.Last,p.Next⟩:GSpots),bs.map (inK p),seen,s,(⟨0,fi,B,rows++List.replicate (s.length-n) []⟩:GDfa)⟩:Gdfa_builder)=bld p (bs.map (inK p)) B seen s fi (rows++List.replicate (s.length-n) []):=rfl
     rw [hbd]
     cases hrs:rowS p (may p n s[n]) bs s fi [] with
     | none=>
       rw [hrs] at hst
       obtain ⟨d,hd⟩:=hst
       rw [hd]
       rfl
     | some z=>
       obtain ⟨s',fi',r'⟩:=z
       rw [hrs] at hst
       obtain ⟨seen',nx',q1,q2,q3,q4⟩:=hst
       rw [q4]
       simp only [Option.bind_some,Bool.not_true,_root_.cond_false,inc1 (show n≤100000000 by omega)]
       have e3:nx'=(rows++[r'])++List.replicate (s'.length-(n+1)) []:=by
        rw [q3,List.append_assoc,List.replicate_append_replicate,show s.length-n+(s'.length-s.length)=s'.length-n by omega]
        exact set_rep h2 (by omega)
       have hB':Bs p seen' s' fi' ((rows++[r'])++List.replicate (s'.length-(n+1)) []):=by rw [←e3];exact q1
       have:=ih (n+1) seen' s' fi' (rows++[r']) (by omega) (by simp [h2]) hB' (rowS_fit hp.low hfit hrs)
       rw [←this,←e3]
       rfl
   · have e:n=s.length:=by omega
     have hlen:¬(n:Int)<((rows++List.replicate (s.length-n) ([]:List Int)).length:Int):=by simp;omega
     rw [if_neg hlen,List.getElem?_eq_none (by omega)]
     simp [outS,e]
end Dq
end Go.Proofs.YtjhbgkakhaonaaaGreatDoor
namespace Go.Proofs.YtjhbgkakhaonaaaGreatDoor
open Go
open Sh Gn
open Pl (pickL mem_pick pick_congr pick_len pickF pickF_0 pickF_s pickF_e Fit Low nextOf Mk mk_0 mk_at mk_set Can can_nil in_p join_p rs rs_in okB fit_pick)
namespace Dq
variable {p:GSpots}
theorem rg_has:∀{l:List Int} {m k:Int},rg m l=true→m≤k→k<cnt m l→k∈l
 | [],m,k,_,h1,h2=>by rw [cnt] at h2;omega
 | x ::l,m,k,h,h1,h2=>by
   rw [rg] at h
   split at h
   · cases h
   · rename_i g
     rw [cnt,show max m (x+1)=(if x=m then m+1 else m) by split<;>omega] at h2
     by_cases e:k=x
     · rw [e];exact List.mem_cons_self
     · refine List.mem_cons_of_mem _ (rg_has h ?_ h2)
       split<;>omega
def leastB (B:List Int) (k:Nat):Nat:=B.idxOf (k:Int)
theorem least_lt {B:List Int} (hB:bR B=true) {k:Nat} (hk:(k:Int)<wide B):leastB B k<256∧B[leastB B k]?=some (k:Int)∧∀j,j<leastB B k→B[j]?≠some (k:Int):=by
 have h:=hB
 simp only [bR,Bool.and_eq_true,decide_eq_true_eq] at h
 have hw:wide B=cnt 0 B:=by unfold wide;rw [if_pos hB]
 have hm:(k:Int)∈B:=rg_has h.1 (by omega) (by omega)
 have hl:=List.idxOf_lt_length_of_mem hm
 refine ⟨by unfold leastB;omega,?_,fun j hj=>?_⟩
 · unfold leastB
   rw [List.getElem?_eq_getElem hl,List.getElem_idxOf]
 · intro e
   have h3:j<B.length:=by unfold leastB at hj;omega
   rw [List.getElem?_eq_getElem h3] at e
   have:=List.not_of_lt_findIdx (show j<B.findIdx (·==(k:Int)) from hj)
   simp at this
   exact this (Option.some.inj e)
theorem first_l {B:List Int} (hB:bR B=true) {k:Nat} (hk:(k:Int)<wide B):∀(m i:Nat),i≤leastB B k→leastB B k<i+m→blocks_First_l1 B k m i=some (leastB B k:Int):=by
 obtain ⟨h256,hat,hn⟩:=least_lt hB hk
 have hlen:=(bR_in hB).1
 intro m
 induction m with
 | zero=>intro i h1 h2;omega
 | succ m ih=>
   intro i h1 h2
   have c:i<B.length:=by omega
   rw [blocks_First_l1]
   simp only [cm_lss,ll_eq,cond_dec,cm_eql]
   rw [if_pos (by omega),at_in c,Option.bind_some,inc1 (by omega)]
   by_cases e:i=leastB B k
   · have h3:B[i]=(k:Int):=by
      have:=hat
      rw [←e,List.getElem?_eq_getElem c] at this
      exact Option.some.inj this
     rw [if_pos h3,e]
   · have h3:¬ B[i]=(k:Int):=fun h=>hn i (by omega) (by rw [List.getElem?_eq_getElem c,h])
     rw [if_neg h3]
     exact ih (i+1) (by omega) (by omega)
theorem first_p {B:List Int} (hB:bR B=true) {k:Nat} (hk:(k:Int)<wide B) {N:Nat} (hN:5000≤N):blocks_First_g N B k=some (leastB B k:Int):=by
 unfold blocks_First_g
 have hlen:=(bR_in hB).1
 have h256:=(least_lt hB hk).1
 rw [bright_p (by omega) (by omega),Option.bind_some,hB]
 exact first_l hB hk N 0 (by omega) (by omega)
theorem of_l2 {k1:Int→List (List Int)→Option (GDfa × Int)} {v4:Int} {v5:List (List Int)} {b:Nat} (hb256:b<256) (hp:p.Sets.length≤1000) (h5:v5.length≤1000):∀(m i:Nat) (acc:List Int),i≤p.Sets.length→p.Sets.length<i+m→acc.length≤i→
 dfa_Of_l2 k1 p v4 v5 b m i acc=k1 (ar .add .i64 v4 1) (v5++[acc++pickF i p.Sets.length (hb p b)]):=by
 intro m
 induction m with
 | zero=>intro i acc h1 h2;omega
 | succ m ih=>
   intro i acc h1 h2 h3
   rw [dfa_Of_l2]
   simp only [cm_lss,ll_eq,cond_dec]
   by_cases c:i<p.Sets.length
   · have eb:hb p b (i:Int)=hs p.Sets[i] b:=by unfold hb;rw [Int.toNat_natCast,List.getElem?_eq_getElem c]
     rw [if_pos (by omega),at_in c,Option.bind_some,has_p hb256,Option.bind_some,inc1 (by omega),pickF_s c,eb]
     cases hs p.Sets[i] b with
     | true=>
       rw [_root_.cond_true,app_eq (by simp;omega),Option.bind_some,Option.bind_some,if_pos rfl,ih (i+1) _ (by omega) (by omega) (by simp;omega),List.append_assoc]
       rfl
     | false=>
       rw [_root_.cond_false,Option.bind_some,if_neg (by simp),ih (i+1) _ (by omega) (by omega) (by omega)]
   · have e:i=p.Sets.length:=by omega
     subst e
     rw [if_neg (by omega),app_eq (by simp;omega),Option.bind_some,pickF_e,List.append_nil]
def bytesOf (B:List Int):List Nat:=(List.range (wide B).toNat).map (leastB B)
theorem of_l1 {B:List Int} (hB:bR B=true) (hp:p.Sets.length≤1000) {N:Nat} (hN:5000≤N):∀(m k:Nat),(k:Int)≤wide B→wide B<k+m→
 dfa_Of_l1 N p B (wide B) m k (((bytesOf B).take k).map (inK p))=(dfa_builder_add_g [] p.None (⟨p,(bytesOf B).map (inK p),[],[],(⟨0,[],B,[]⟩:GDfa)⟩:Gdfa_builder)).bind fun a13=>
  dfa_Of_l3 N N 0 a13.seen a13.p.Sets a13.p.None a13.p.First a13.p.Last a13.p.Next a13.in_ a13.out.Start a13.out.Block a13.sets a13.out.Final a13.out.Next:=by
 have hw:=wide_le B
 have hbl:(bytesOf B).length=(wide B).toNat:=by simp [bytesOf]
 intro m
 induction m with
 | zero=>intro k h1 h2;omega
 | succ m ih=>
   intro k h1 h2
   rw [dfa_Of_l1]
   simp only [cm_lss,cond_dec]
   by_cases c:(k:Int)<wide B
   · have hk:k<(bytesOf B).length:=by omega
     have e1:(bytesOf B)[k]=leastB B k:=by simp [bytesOf]
     rw [if_pos c,first_p hB c hN,Option.bind_some]
     have h:=of_l2 (p:=p) (k1:=dfa_Of_l1 N p B (wide B) m) (v4:=(k:Int)) (v5:=((bytesOf B).take k).map (inK p)) (least_lt hB c).1 hp (by simp;omega) N 0 [] (by omega) (by omega) (by simp)
     have h':dfa_Of_l2 (dfa_Of_l1 N p B (wide B) m) p (k:Int) (((bytesOf B).take k).map (inK p)) (leastB B k:Int) N 0 []=_:=h
     rw [h',inc1 (by omega),List.nil_append,pickF_0]
     have e2:((bytesOf B).take k).map (inK p)++[pickL p.Sets.length (hb p (leastB B k))]=((bytesOf B).take (k+1)).map (inK p):=by
      rw [List.take_add_one,List.getElem?_eq_getElem hk,List.map_append,e1]
      rfl
     rw [e2]
     exact ih (k+1) (by omega) (by omega)
   · rw [if_neg c,List.take_of_length_le (by omega)]
theorem low1 (hp:Low p):p.Sets.length≤1000:=by have:=hp.sets;omega
theorem dof_p (hp:Low p) (hok:okB p=true) {N:Nat} (hN:5000≤N):dfa_Of_g N p=(ofS p (bytesOf (blkS p.Sets)) N 0 [[]] [p.None] []).map (outS (blkS p.Sets)):=by
 have hB:bR (blkS p.Sets)=true:=(blkS_blk p.Sets).rgt
 have hw:=wide_le (blkS p.Sets)
 have hw1:=wide_pos hB
 have h200:=hp.sets
 have hOk:=Pl.ok_of hp hok
 have hbl:(bytesOf (blkS p.Sets)).length=(wide (blkS p.Sets)).toNat:=by simp [bytesOf]
 unfold dfa_Of_g
 rw [Pl.right_p hp (by omega),hok,Option.bind_some,bof_p (by omega) (by omega) (by omega),Option.bind_some,bcount_p (by rw [(blkS_blk p.Sets).len];omega) (by omega),Option.bind_some]
 have h1:=of_l1 (p:=p) hB (low1 hp) hN N 0 (by omega) (by omega)
 rw [List.take_zero,List.map_nil] at h1
 have h1':dfa_Of_l1 N p (blkS p.Sets) (wide (blkS p.Sets)) N 0 []=_:=h1
 show dfa_Of_l1 N p (blkS p.Sets) (wide (blkS p.Sets)) N 0 []=_
 rw [h1']
 have ha:dfa_builder_add_g [] p.None (⟨p,(bytesOf (blkS p.Sets)).map (inK p),[],[],(⟨0,[],blkS p.Sets,[]⟩:GDfa)⟩:Gdfa_builder)=some (bld p ((bytesOf (blkS p.Sets)).map (inK p)) (blkS p.Sets) [] [[]] [p.None] [[]]):=by
  simp [dfa_builder_add_g,app,bld]
 rw [ha,Option.bind_some]
 exact of_l3 (p:=p) (N:=N) (B:=blkS p.Sets) (bs:=bytesOf (blkS p.Sets)) hOk hN (by omega) (by omega) N 0 [] [[]] [p.None] [] (by simp) rfl ⟨seen_nil,by simp,by simp,by simp,by simp⟩ (fun x hx=>by
  rw [List.mem_singleton] at hx
  rw [hx]
  exact ⟨by simp,fun x h=>by cases h⟩)
theorem dof_bad (hp:Low p) (hok:okB p=false) {N:Nat} (hN:5000≤N):dfa_Of_g N p=some (⟨0,[],[],[]⟩,7):=by
 unfold dfa_Of_g
 rw [Pl.right_p hp (by omega),hok]
 rfl
end Dq
end Go.Proofs.YtjhbgkakhaonaaaGreatDoor
namespace Go.Proofs.YtjhbgkakhaonaaaGreatDoor
open Go
open Sh Gn
open Pl (pickL mem_pick pick_congr pick_len pickF pickF_0 pickF_s pickF_e Fit Low nextOf Mk mk_0 mk_at mk_set Can can_nil in_p join_p rs rs_in okB fit_pick)
namespace Dq
variable {p:GSpots}
theorem same_l {a b:List Int} (hl:a.length=b.length) (ha:a.length≤100000):∀(m i:Nat),i≤a.length→a.length<i+m→porterbase_SameInts_l1 a b m i=some (decide (a.drop i=b.drop i)):=by
 intro m
 induction m with
 | zero=>intro i h1 h2;omega
 | succ m ih=>
   intro i h1 h2
   rw [porterbase_SameInts_l1]
   simp only [cm_lss,ll_eq,cond_dec,cm_neq,cond_not]
   by_cases c:i<a.length
   · rw [if_pos (by omega),at_in c,Option.bind_some,at_in (show i<b.length by omega),Option.bind_some,inc1 (by omega),List.drop_eq_getElem_cons c,List.drop_eq_getElem_cons (show i<b.length by omega)]
     by_cases e:a[i]=b[i]'(by omega)
     · rw [if_pos e,ih (i+1) (by omega) (by omega)]
       congr 1
       rw [decide_eq_decide,List.cons.injEq]
       exact ⟨fun h=>⟨e,h⟩,fun h=>h.2⟩
     · rw [if_neg e]
       congr 1
       rw [eq_comm,decide_eq_false_iff_not,List.cons.injEq]
       exact fun h=>e h.1
   · rw [if_neg (by omega),List.drop_of_length_le (by omega),List.drop_of_length_le (by omega)]
     rfl
theorem same_p {a b:List Int} (ha:a.length≤100000) {N:Nat} (hN:a.length<N):porterbase_SameInts_g N a b=some (decide (a=b)):=by
 unfold porterbase_SameInts_g
 simp only [cm_neq,ll_eq,cond_not,cond_dec]
 by_cases h:(a.length:Int)=b.length
 · rw [if_pos h]
   have:=same_l (a:=a) (b:=b) (by omega) ha N 0 (by omega) (by omega)
   simpa using this
 · rw [if_neg h]
   have:¬ a=b:=fun e=>h (by rw [e])
   simp [this]
theorem find_l {s:List (List Int)} {x:List Int} (hs:s.length≤5000) (hx:∀y∈s,y.length≤1000) {N:Nat} (hN:5000≤N):∀(m i:Nat),i≤s.length→s.length<i+m→r18_find_l1 N s x m i=some (match fA i (s.drop i) x with | some j=>(j:Int) | none=>-1):=by
 intro m
 induction m with
 | zero=>intro i h1 h2;omega
 | succ m ih=>
   intro i h1 h2
   rw [r18_find_l1]
   simp only [cm_lss,ll_eq,cond_dec]
   by_cases c:i<s.length
   · have hl:=hx _ (List.getElem_mem c)
     rw [if_pos (by omega),at_in c,Option.bind_some,same_p (by omega) (by omega),Option.bind_some,inc1 (by omega),List.drop_eq_getElem_cons c,fA,cond_dec]
     by_cases e:s[i]=x
     · rw [if_pos e,if_pos e]
     · rw [if_neg e,if_neg e]
       exact ih (i+1) (by omega) (by omega)
   · rw [if_neg (by omega),List.drop_of_length_le (by omega)]
     rfl
theorem find_p {s:List (List Int)} {x:List Int} (h0:s≠[]) (hs:s.length≤4096) (hx:∀y∈s,y.length≤1000) {N:Nat} (hN:5000≤N):r18_find_g N s x=some (match fnd s x with | some j=>(j:Int) | none=>-1):=by
 have hpos:0<s.length:=List.length_pos_iff.2 h0
 have h:=find_l (s:=s) (x:=x) (by omega) hx hN N 1 (by omega) (by omega)
 have h':r18_find_g N s x=_:=h
 rw [h',fnd,List.drop_one]
theorem rin_l {l:List Int} {x:Int} (hl:l.length≤100000):∀(m i:Nat),i≤l.length→l.length<i+m→r18_in_l1 l x m i=some (decide (x∈l.drop i)):=by
 intro m
 induction m with
 | zero=>intro i h1 h2;omega
 | succ m ih=>
   intro i h1 h2
   rw [r18_in_l1]
   simp only [cm_lss,ll_eq,cond_dec,cm_eql]
   by_cases c:i<l.length
   · rw [if_pos (by omega),at_in c,Option.bind_some,inc1 (by omega),List.drop_eq_getElem_cons c]
     by_cases e:l[i]=x
     · rw [if_pos e,e]
       simp
     · rw [if_neg e,ih (i+1) (by omega) (by omega)]
       congr 1
       rw [decide_eq_decide,List.mem_cons]
       exact ⟨.inr,fun h=>h.resolve_left (fun h=>e h.symm)⟩
   · rw [if_neg (by omega),List.drop_of_length_le (by omega)]
     simp
theorem rin_p {l:List Int} {x:Int} (hl:l.length≤100000) {N:Nat} (hN:l.length<N):r18_in_g N l x=some (decide (x∈l)):=by
 have:=rin_l (l:=l) (x:=x) hl N 0 (by omega) (by omega)
 rw [List.drop_zero] at this
 exact this
theorem r_l5 {N:Nat} {k3:Int→List Bool→List (List Int)→List Int→Option (GDfa × Int)} {k b:Nat} {s:List (List Int)} {row:List Int} {fi:List Bool} {l:List Int} (hp:Low p) (hN:5000≤N) (hk:k≤1000) (hb256:b<256) (hs0:s≠[]) (hsl:s.length≤4096) (hsf:∀y∈s,Fit p y) (hfi:fi.length=s.length) (hrow:row.length≤1000) (hl:Fit p l):∀(m i:Nat) (acc:List Int),i≤l.length→l.length<i+m→acc.length≤i→
 r18_Of_l5 N k3 p 4096 k s row b fi l m (tk p acc) i acc=match fnd s (acc++(l.drop i).filter (hb p b)) with
  | some j=>k3 ((k+1:Nat):Int) fi s (row++[(j:Int)])
  | none=>if 4096≤s.length then some (⟨0,[],[],[]⟩,16) else k3 ((k+1:Nat):Int) (fi++[tk p (acc++(l.drop i).filter (hb p b))]) (s++[acc++(l.drop i).filter (hb p b)]) (row++[(s.length:Int)]):=by
 have h200:=hl.1
 have hlast:=hp.last
 intro m
 induction m with
 | zero=>intro i acc h1 h2;omega
 | succ m ih=>
   intro i acc h1 h2 h3
   rw [r18_Of_l5]
   rw [show ll (rw Int (cI .i64) l)=(l.length:Int) from ll_eq]
   simp only [cm_lss,cond_dec]
   by_cases c:i<l.length
   · have hx:=hl.2 _ (List.getElem_mem c)
     obtain ⟨S,q1,q2⟩:=at_int (l:=p.Sets) hx.1 hx.2
     have eb:hb p b l[i]=hs S b:=by unfold hb;rw [q2]
     rw [if_pos (by omega),at_in c,Option.bind_some,q1,Option.bind_some,rhas_p hb256,Option.bind_some,inc1 (by omega),List.drop_eq_getElem_cons c,List.filter_cons,eb]
     cases hs S b with
     | true=>
       have et:tk p (acc++[l[i]])=(tk p acc||decide (l[i]∈p.Last)):=by simp [tk]
       rw [_root_.cond_true,if_pos rfl]
       simp only [Option.bind_some]
       rw [app_eq (by simp;omega),Option.bind_some]
       have e1:acc++l[i]::(l.drop (i+1)).filter (hb p b)=(acc++[l[i]])++(l.drop (i+1)).filter (hb p b):=by simp
       rw [e1]
       cases ht:tk p acc with
       | true=>
         simp only [_root_.cond_true,Option.bind_some]
         rw [ht,Bool.true_or] at et
         have:=ih (i+1) (acc++[l[i]]) (by omega) (by omega) (by simp;omega)
         rw [et] at this
         exact this
       | false=>
         simp only [_root_.cond_false,Option.bind_some,rin_p (l:=p.Last) (x:=l[i]) (by omega) (show p.Last.length<N by omega)]
         rw [ht,Bool.false_or] at et
         have:=ih (i+1) (acc++[l[i]]) (by omega) (by omega) (by simp;omega)
         rw [et] at this
         exact this
     | false=>
       rw [_root_.cond_false,Option.bind_some,if_neg (by simp)]
       exact ih (i+1) acc (by omega) (by omega) (by omega)
   · have hd:l.drop i=[]:=List.drop_of_length_le (by omega)
     have hfl:∀y∈s,y.length≤1000:=fun y hy=>by have:=(hsf y hy).1;omega
     rw [if_neg (by omega),hd,List.filter_nil,List.append_nil,find_p hs0 hsl hfl hN,Option.bind_some,inc1 (by omega)]
     rw [show ll (rw (List Int) (cLs (cI .i64)) s)=(s.length:Int) from ll_eq]
     cases hf:fnd s acc with
     | some j=>
       simp only [cm_gtr,cond_dec]
       rw [if_neg (by omega),if_neg (by omega),app_eq (by simp;omega),Option.bind_some]
     | none=>
       simp only [cm_gtr,cond_dec]
       rw [if_pos (by omega),app_eq (by simp;omega),Option.bind_some,app_eq (by simp;omega),Option.bind_some,ll_eq,app_eq (by simp;omega),Option.bind_some]
       by_cases g:4096≤s.length
       · rw [if_pos g,if_pos (by simp;omega)]
       · rw [if_neg g,if_neg (by simp;omega)]
theorem r_l4 {N:Nat} {k3:Int→List Bool→List (List Int)→List Int→Option (GDfa × Int)} {B:List Int} (hB:bR B=true) {k:Nat} (hk:(k:Int)<wide B) {s:List (List Int)} {row:List Int} {fi:List Bool} {l:List Int}:∀(m i:Nat),i≤leastB B k→leastB B k<i+m→
 r18_Of_l4 N k3 p 4096 B k s row fi l m i=r18_Of_l5 N k3 p 4096 k s row (leastB B k) fi l N false 0 []:=by
 obtain ⟨h256,hat,hn⟩:=least_lt hB hk
 have hlen:=(bR_in hB).1
 intro m
 induction m with
 | zero=>intro i h1 h2;omega
 | succ m ih=>
   intro i h1 h2
   have c:i<B.length:=by omega
   rw [r18_Of_l4]
   simp only [cm_neq,cond_not,cond_dec]
   rw [at_in c,Option.bind_some,inc1 (by omega)]
   by_cases e:i=leastB B k
   · have h3:B[i]=(k:Int):=by
      have:=hat
      rw [←e,List.getElem?_eq_getElem c] at this
      exact Option.some.inj this
     rw [if_pos h3,e]
   · have h3:¬ B[i]=(k:Int):=fun h=>hn i (by omega) (by rw [List.getElem?_eq_getElem c,h])
     rw [if_neg h3]
     exact ih (i+1) (by omega) (by omega)
theorem pick_filter {M:Nat} {f g:Int→Bool}:(pickL M f).filter g=pickL M fun x=>f x&&g x:=by
 unfold pickL
 rw [List.filter_filter]
 congr 1
 funext x
 rw [Bool.and_comm]
theorem rowS_len:∀{bs:List Nat} {acc:List Int} {s:List (List Int)} {fi:List Bool} {r:List Int} {z:List (List Int)× List Bool × List Int},s.length≤4096→s≠[]→fi.length=s.length→rowS p acc bs s fi r=some z→z.1.length≤4096∧z.1≠[]∧z.2.1.length=z.1.length∧s.length≤z.1.length∧z.2.2.length=r.length+bs.length
 | [],acc,s,fi,r,z,h1,h2,h3,e=>by cases e;exact ⟨h1,h2,h3,Nat.le_refl _,by simp⟩
 | b ::bs,acc,s,fi,r,z,h1,h2,h3,e=>by
   rw [rowS] at e
   split at e
   · obtain ⟨q1,q2,q3,q4,q5⟩:=rowS_len h1 h2 h3 e
     exact ⟨q1,q2,q3,q4,by rw [q5];simp;omega⟩
   · split at e
     · cases e
     · obtain ⟨q1,q2,q3,q4,q5⟩:=rowS_len (by simp;omega) (by simp) (by simp [h3]) e
       exact ⟨q1,q2,q3,by simp at q4;omega,by rw [q5];simp;omega⟩
theorem r_l3 {N:Nat} {k1:Int→List Bool→List (List Int)→List (List Int)→Option (GDfa × Int)} {B:List Int} (hB:bR B=true) (hp:Low p) (hN:5000≤N) {n:Nat} (hn:n≤5000) {rows:List (List Int)} (hrows:rows.length≤5000) {acc:List Int}:∀(m k:Nat) (s:List (List Int)) (fi:List Bool) (r:List Int),k≤(wide B).toNat→(wide B).toNat<k+m→s≠[]→s.length≤4096→(∀y∈s,Fit p y)→fi.length=s.length→r.length≤k→
 r18_Of_l3 N k1 p 4096 B (wide B) n rows (pickL p.Sets.length fun x=>decide (x∈acc)) m k fi s r=match rowS p acc ((bytesOf B).drop k) s fi r with
  | none=>some (⟨0,[],[],[]⟩,16)
  | some (s',fi',r')=>k1 ((n+1:Nat):Int) fi' s' (rows++[r']):=by
 have hw:=wide_le B
 have hbl:(bytesOf B).length=(wide B).toNat:=by simp [bytesOf]
 intro m
 induction m with
 | zero=>intro k s fi r h1 h2;omega
 | succ m ih=>
   intro k s fi r h1 h2 hs0 hs hsf hfi hr
   rw [r18_Of_l3]
   simp only [cm_lss,cond_dec]
   by_cases c:(k:Int)<wide B
   · have hk:k<(bytesOf B).length:=by omega
     have e1:(bytesOf B)[k]=leastB B k:=by simp [bytesOf]
     have h256:=(least_lt hB c).1
     have h4:=r_l4 (p:=p) (N:=N) (k3:=r18_Of_l3 N k1 p 4096 B (wide B) n rows (pickL p.Sets.length fun x=>decide (x∈acc)) m) hB c (s:=s) (row:=r) (fi:=fi) (l:=pickL p.Sets.length fun x=>decide (x∈acc)) N 0 (by omega) (by omega)
     have h4':r18_Of_l4 N (r18_Of_l3 N k1 p 4096 B (wide B) n rows (pickL p.Sets.length fun x=>decide (x∈acc)) m) p 4096 B (k:Int) s r fi (pickL p.Sets.length fun x=>decide (x∈acc)) N 0=_:=h4
     have hM:=hp.sets
     have h5:=r_l5 (p:=p) (N:=N) (k3:=r18_Of_l3 N k1 p 4096 B (wide B) n rows (pickL p.Sets.length fun x=>decide (x∈acc)) m) (k:=k) (b:=leastB B k) (s:=s) (row:=r) (fi:=fi) (l:=pickL p.Sets.length fun x=>decide (x∈acc)) hp hN (by omega) h256 hs0 hs hsf hfi (by omega) (fit_pick hp) N 0 [] (by omega) (by have:=pick_len (many:=p.Sets.length) (f:=fun x=>decide (x∈acc));omega) (by simp)
     have h5':r18_Of_l5 N (r18_Of_l3 N k1 p 4096 B (wide B) n rows (pickL p.Sets.length fun x=>decide (x∈acc)) m) p 4096 (k:Int) s r (leastB B k:Int) fi (pickL p.Sets.length fun x=>decide (x∈acc)) N false 0 []=_:=h5
     rw [if_pos c,h4',h5',List.nil_append,List.drop_zero,pick_filter,List.drop_eq_getElem_cons hk,rowS,e1]
     have e2:(pickL p.Sets.length fun x=>decide (x∈acc)&&hb p (leastB B k) x)=setK p acc (leastB B k):=rfl
     rw [e2]
     cases hf:fnd s (setK p acc (leastB B k)) with
     | some j=>
       simp only
       exact ih (k+1) s fi _ (by omega) (by omega) hs0 hs hsf hfi (by simp;omega)
     | none=>
       simp only
       by_cases g:4096≤s.length
       · rw [if_pos g,if_pos g]
       · rw [if_neg g,if_neg g]
         refine ih (k+1) _ _ _ (by omega) (by omega) (by simp) (by simp;omega) (fun y hy=>?_) (by simp [hfi]) (by simp;omega)
         rcases List.mem_append.1 hy with hy | hy
         · exact hsf y hy
         · rw [List.mem_singleton] at hy
           rw [hy]
           exact fit_pick hp
   · rw [if_neg c,List.drop_of_length_le (by omega),rowS,app_eq (by simp;omega),Option.bind_some,inc1 (by omega)]
theorem r_l2 {N:Nat} {k1:Int→List Bool→List (List Int)→List (List Int)→Option (GDfa × Int)} {B:List Int} (hp:Pl.Ok p) (hN:5000≤N) {n:Nat} {s:List (List Int)} {fi:List Bool} {rows:List (List Int)} {x acc0:List Int} (hx:s[n]?=some x) (hfit:Fit p x):∀(m i:Nat),i≤x.length→x.length<i+m→
 r18_Of_l2 N k1 p 4096 B (wide B) n fi s rows m (pickL p.Sets.length fun y=>decide (y∈acc0++(x.take i).flatMap (nextOf p))) i=r18_Of_l3 N k1 p 4096 B (wide B) n rows (pickL p.Sets.length fun y=>decide (y∈acc0++x.flatMap (nextOf p))) N 0 fi s []:=by
 have h200:=hfit.1
 have hM:=hp.low.sets
 have es:at_ s (n:Int)=some x:=by rw [at_nat];exact hx
 intro m
 induction m with
 | zero=>intro i h1 h2;omega
 | succ m ih=>
   intro i h1 h2
   rw [r18_Of_l2]
   simp only [es,Option.bind_some,cm_lss,cond_dec]
   rw [show ll (rw Int (cI .i64) x)=(x.length:Int) from ll_eq,show ll (rw CSet cSet p.Sets)=(p.Sets.length:Int) from ll_eq]
   by_cases c:i<x.length
   · have hxi:=hfit.2 _ (List.getElem_mem c)
     obtain ⟨q1,q2⟩:=hp.next_at hxi
     have hpl:=pick_len (many:=p.Sets.length) (f:=fun y=>decide (y∈acc0++(x.take i).flatMap (nextOf p)))
     rw [if_pos (by omega),at_in c,Option.bind_some,q1,Option.bind_some,join_p (by omega) (by omega) (by have:=q2.1;omega) (by have:=q2.1;omega) (by omega) (by omega),Option.bind_some,inc1 (by omega)]
     have e:(pickL p.Sets.length fun n=>decide (n∈pickL p.Sets.length fun y=>decide (y∈acc0++(x.take i).flatMap (nextOf p)))||decide (n∈nextOf p x[i]))=pickL p.Sets.length fun y=>decide (y∈acc0++(x.take (i+1)).flatMap (nextOf p)):=by
      refine pick_congr fun y h0 h1=>?_
      rw [Bool.eq_iff_iff,Bool.or_eq_true,decide_eq_true_eq,decide_eq_true_eq,decide_eq_true_eq,mem_pick,decide_eq_true_eq,List.take_add_one,List.getElem?_eq_getElem c,List.flatMap_append,←List.append_assoc,List.mem_append (s:=acc0++_)]
      simp only [Option.toList_some,List.flatMap_cons,List.flatMap_nil,List.append_nil]
      exact ⟨fun h=>h.imp (fun h=>h.2) id,fun h=>h.imp (fun h=>⟨⟨h0,h1⟩,h⟩) id⟩
     rw [e]
     exact ih (i+1) (by omega) (by omega)
   · rw [if_neg (by omega),List.take_of_length_le (by omega)]
theorem rs_mem_gt {many:Int}:∀{l:List Int} {last:Int},rs many last l=true→∀x∈l,last<x
 | [],_,_,x,h=>by cases h
 | y ::l,last,h,x,hx=>by
   rw [rs] at h
   split at h
   · cases h
   · rcases List.mem_cons.1 hx with rfl | hx
     · omega
     · have:=rs_mem_gt h x hx
       omega
theorem rs_can:∀{l:List Int} {M:Nat} {i:Nat},rs (M:Int) ((i:Int)-1) l=true→i≤M→l=pickF i M fun x=>decide (x∈l):=by
 intro l M i
 generalize hd:M-i=d
 induction d generalizing l i with
 | zero=>
   intro h hi
   have e:i=M:=by omega
   subst e
   rw [pickF_e]
   cases l with
   | nil=>rfl
   | cons x l=>
     rw [rs] at h
     split at h
     · cases h
     · omega
 | succ d ih=>
   intro h hi
   rw [pickF_s (by omega)]
   cases l with
   | nil=>
     have:=ih (l:=[]) (i:=i+1) (by omega) rfl (by omega)
     simpa using this
   | cons x l=>
     rw [rs] at h
     split at h
     · cases h
     · rename_i g
       by_cases e:x=(i:Int)
       · subst e
         have h':rs (M:Int) (((i+1:Nat):Int)-1) l=true:=by rw [show (((i+1:Nat):Int)-1)=(i:Int) by omega];exact h
         have h2:=ih (l:=l) (i:=i+1) (by omega) h' (by omega)
         rw [if_pos (by simp)]
         congr 1
         refine Eq.trans h2 ?_
         unfold pickF
         refine List.filter_congr fun y hy=>?_
         obtain ⟨z,hz,rfl⟩:=List.mem_map.1 hy
         have hz2:i+1≤z:=by
          obtain ⟨q,hq1,hq2⟩:=List.mem_iff_getElem.1 hz
          simp at hq2
          omega
         rw [decide_eq_decide,List.mem_cons]
         exact ⟨.inr,fun h=>h.resolve_left (by intro e;have:(z:Int)=(i:Int):=e;omega)⟩
       · have h':rs (M:Int) (((i+1:Nat):Int)-1) (x::l)=true:=by rw [rs,if_neg (by omega)];exact h
         have h2:=ih (l:=x::l) (i:=i+1) (by omega) h' (by omega)
         rw [if_neg (by
          simp only [decide_eq_true_eq,List.mem_cons,not_or]
          refine ⟨fun h=>e h.symm,fun hm=>?_⟩
          have:=rs_mem_gt h _ hm
          omega)]
         exact h2
end Dq
end Go.Proofs.YtjhbgkakhaonaaaGreatDoor
