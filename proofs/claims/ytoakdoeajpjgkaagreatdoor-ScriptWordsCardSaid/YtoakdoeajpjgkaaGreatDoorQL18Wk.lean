/- Part of a law's texts. Conditions: none. -/
import Derived.Test.YtoakdoeajpjgkaaGreatDoorQL18Wj
open Go.Proofs.Tryz
set_option linter.all false
namespace Go.Proofs.YtoakdoeajpjgkaaGreatDoor
open Go
structure bE where
 bd:Nat
 c:Cfg
 b:Blk
 to_:Int
 scan:Int
 free:Int
 todo:List Int
 went:List (Int×Int)
 done:Bool
abbrev eR(S:bE)(rsv tsv:Value)(mw:Nat):List Value:=[ptr S.bd,i64 S.c.log,i64 S.c.roots,i64 S.c.space,i64 S.b.act,i64 S.b.used,rsv,i64 S.to_,i64 S.scan,i64 S.free,tsv,.map (some mw),.bool S.done]
def eS(x:Nat)(S:bE):HP:=hex fun (p:Value×Value×Nat)=>grp [row x (eR S p.1 p.2.1 p.2.2) 247,cS 0 (p.1,S.b.rts),cS 0 (p.2.1,S.todo),bu .u64 i64 p.2.2 S.went,pr (aM p.1=true∧aM p.2.1=true)]
theorem jG{B:World}{n:Nat}{D:List Deferred}{σ:Env}{x:Nat}{S:bE}{Fr:List HP}{K:Act→World→Prop}(h:∀ rsv tsv mw,aM rsv=true→aM tsv=true→GO B n D σ (row x (eR S rsv tsv mw) 247::cS 0 (rsv,S.b.rts)::cS 0 (tsv,S.todo)::bu .u64 i64 mw S.went::Fr) K):GO B n D σ (eS x S::Fr) K:=fun a w st=>by
 obtain⟨p,hx⟩:=st.holds.hex
 have h2:=(hx.grp.front 4 rfl).pr
 exact h _ _ _ h2.1.1 h2.1.2 a w ⟨st.toStA,h2.2⟩
theorem cB{B:World}{x mw:Nat}{S:bE}{rsv tsv:Value}{Fr:List HP}{w:World}(hr:aM rsv=true)(ht:aM tsv=true)(h:Holds B (row x (eR S rsv tsv mw) 247::cS 0 (rsv,S.b.rts)::cS 0 (tsv,S.todo)::bu .u64 i64 mw S.went::Fr) w):Holds B (eS x S::Fr) w:=
 Holds.unhex (rsv,tsv,mw) (Holds.ungrp (l:=[row x (eR S rsv tsv mw) 247,cS 0 (rsv,S.b.rts),cS 0 (tsv,S.todo),bu .u64 i64 mw S.went,pr _]) ((h.unpr ⟨hr,ht⟩).back 4 (by simp)))
def pT:Nat→Int→Int→Int→Dev→Out Unit
 | 0,_,_,_,s=> .ok () s
 | k+1,i,a,f,s=>(s.store (a+i) (s.load (f+i))).then fun _ s'=>pT k (i+1) a f s'
theorem mP(k:Nat)(i a f:Int)(s:Dev):pT (k+1) i a f s=(s.store (a+i) (s.load (f+i))).then fun _ s'=>pT k (i+1) a f s':=rfl
def bE.copied(S:bE)(s:Dev)(w:Int):Out (Int×bE):=
 if (bJ S.went w).isSome=true then .ok ((bJ S.went w).getD 0,S) s
 else if S.b.has S.c w=false then .ok (0,S) s
 else if (s.objOf S.c S.b w).2≠0 then .ok (0,S) s
 else (pT ((s.objOf S.c S.b w).1.1+1).toNat 0 S.free (s.objOf S.c S.b w).1.2.2 s).then fun _ s'=> .ok (S.free,{S with free:=S.free+((s.objOf S.c S.b w).1.1+1),went:=mset S.went w S.free}) s'
def jR:Nat→Int→bE→Dev→Out bE
 | 0,_,S,s=> .ok S s
 | k+1,i,S,s=>if s.load (S.scan+1+i)=0 then jR k (i+1) S s
   else (S.copied s (s.load (S.scan+1+i))).then fun r s1=>(s1.store (S.scan+1+i) r.1).then fun _ s2=>jR k (i+1) r.2 s2
def lV:Nat→Int→Int→Dev→Out Unit
 | 0,_,_,s=> .ok () s
 | f+1,i,e,s=>if i<e then (s.flush i).then fun _ s'=>lV f (i+8) e s' else .ok () s
def bE.keep(S:bE)(s:Dev):Out Unit:=
 (lV ((S.free - S.to_).toNat+1) S.to_ S.free s).then fun _ s'=>if S.to_<S.free then s'.fence else .ok () s'
def bE.step(S:bE)(s:Dev):Out (Bool×bE):=
 if S.done=true then .ok (true,S) s
 else match S.todo with
  | w::t=>(S.copied s w).then fun r s'=> .ok (false,{r.2 with todo:=t}) s'
  | []=>if S.scan<S.free then
   (jR (unp (s.load S.scan)).2.1.toNat 0 S s).then fun S' s'=> .ok (false,{S' with scan:=S'.scan+((unp (s.load S.scan)).1+1)}) s'
    else (S.keep s).then fun _ s'=> .ok (true,{S with done:=true}) s'
def uB:Nat→bE→Dev→Out bE
 | 0,S,s=> .ok S s
 | f+1,S,s=>(S.step s).then fun r s'=>if r.1=true then .ok r.2 s' else uB f r.2 s'
def bE.meas(S:bE):Nat:=S.todo.length+(S.free - S.scan).toNat+66*(S.b.used.toNat - S.went.length)+(if S.done=true then 0 else 1)
def bE.run(S:bE)(s:Dev):Out bE:=uB (S.meas+1) S s
def bE.block(S:bE):Blk:=⟨1 - S.b.act,S.free - S.to_,S.b.rts.map fun w=>(bJ S.went w).getD 0⟩
def eh(bd:Nat)(c:Cfg)(b:Blk)(ws:List Int):bE:=⟨bd,c,b,c.frm (1 - b.act),c.frm (1 - b.act),c.frm (1 - b.act),ws,[],false⟩
structure fc(S:bE):Prop where
 c:bx S.c
 b:gg S.c S.b
 rl:S.b.rts.length≤16
 to_:0≤S.to_∧S.to_≤20000
 scan:S.to_≤S.scan∧S.scan≤400000
 free:S.to_≤S.free∧S.free≤S.to_+65*S.went.length
 nd:(S.went.map Prod.fst).Nodup
 rng:∀ k∈S.went.map Prod.fst,S.c.frm S.b.act≤k∧k<S.c.frm S.b.act+S.b.used
 val:∀ p∈S.went,0≤p.2∧p.2≤1000000
 todo:∀ v∈S.todo,0≤v∧v<18446744073709551616
 rts:∀ v∈S.b.rts,0≤v∧v<18446744073709551616
theorem fc.wl{S:bE}(h:fc S):S.went.length≤S.b.used.toNat:=by
 have h1:=h.b.used
 have:=kI S.b.used.toNat (S.c.frm S.b.act) _ h.nd fun k hk=>by have:=h.rng k hk;omega
 simpa using this
theorem fc.fb{S:bE}(h:fc S):S.free≤300000:=by
 have h1:=h.wl;have h2:=h.b.used;have h3:=h.c.s2;have h4:=h.free;have h5:=h.to_;omega
theorem fc.vb{S:bE}(h:fc S)(w:Int):0≤(bJ S.went w).getD 0∧(bJ S.went w).getD 0≤1000000:=by
 cases hm:bJ S.went w with
 | none=>exact⟨Int.le_refl 0,by decide⟩
 | some v=>exact h.val _ (oU hm)
theorem mm{S:bE}(h:fc S){s s':Dev}{w:Int}{r:Int×bE}(e:S.copied s w= .ok r s'):fc r.2∧(0≤r.1∧r.1≤1000000)∧r.2.scan=S.scan∧r.2.todo=S.todo∧r.2.done=S.done∧r.2.b=S.b∧r.2.bd=S.bd∧r.2.c=S.c∧r.2.to_=S.to_∧S.free≤r.2.free∧r.2.free - S.free+66*(S.b.used.toNat - r.2.went.length:Nat)≤66*(S.b.used.toNat - S.went.length:Nat):=by
 have hwl:=h.wl;have hfb:=h.fb;have hto:=h.to_;have hfr:=h.free
 unfold bE.copied at e
 split at e
 ·cases e;exact⟨h,h.vb w,rfl,rfl,rfl,rfl,rfl,rfl,rfl,Int.le_refl _,by simp only;omega⟩
 rename_i h1
 split at e
 ·cases e;exact⟨h,⟨Int.le_refl 0,by simp only;omega⟩,rfl,rfl,rfl,rfl,rfl,rfl,rfl,Int.le_refl _,by simp only;omega⟩
 rename_i h2
 split at e
 ·cases e;exact⟨h,⟨Int.le_refl 0,by simp only;omega⟩,rfl,rfl,rfl,rfl,rfl,rfl,rfl,Int.le_refl _,by simp only;omega⟩
 obtain⟨_,s1,_,e⟩:=aH e
 cases e
 have h3:bJ S.went w=none:=by cases hm:bJ S.went w with
  | none=>rfl
  | some _=>exact absurd (by rw[hm];rfl) h1
 have h4:S.b.has S.c w=true:=by cases hm:S.b.has S.c w with
  | true=>rfl
  | false=>exact absurd hm h2
 have h5:=kD h.c h.b h4
 have h6:=vS (s:=s) (c:=S.c) (b:=S.b) (a:=w)
 have hnk:w∉S.went.map Prod.fst:=qj h3
 have hnd:((S.went++[(w,S.free)]).map Prod.fst).Nodup:=by
  rw[List.map_append,List.nodup_append]
  exact⟨h.nd,by simp,fun a ha b' hb'=>by simp at hb';subst hb';intro e;subst e;exact hnk ha⟩
 have hrng:∀ k∈(S.went++[(w,S.free)]).map Prod.fst,S.c.frm S.b.act≤k∧k<S.c.frm S.b.act+S.b.used:=fun k hk=>by
  rw[List.map_append,List.mem_append] at hk
  rcases hk with hk | hk
  ·exact h.rng k hk
  ·simp at hk;subst hk;omega
 have hl2:=kI S.b.used.toNat (S.c.frm S.b.act) _ hnd fun k hk=>by have:=hrng k hk;have:=h.b.used;omega
 simp only[List.length_map,List.length_append,List.length_cons,List.length_nil] at hl2
 refine⟨⟨h.c,h.b,h.rl,h.to_,h.scan,?_,by rw[gw h3];exact hnd,by rw[gw h3];exact hrng,fun p hp=> ?_,h.todo,h.rts⟩,⟨by simp only;omega,by simp only;omega⟩,rfl,rfl,rfl,rfl,rfl,rfl,rfl,by simp only;omega,?_⟩
 ·rw[gw h3];simp only[List.length_append,List.length_cons,List.length_nil];omega
 ·rw[gw h3] at hp
  rcases List.mem_append.1 hp with hp | hp
  ·exact h.val p hp
  ·rw[List.mem_singleton.1 hp];simp only;omega
 ·rw[gw h3];simp only[List.length_append,List.length_cons,List.length_nil];omega
theorem tT:∀ (k:Nat) (i a f:Int) (s s':Dev),U64 s→pT k i a f s= .ok () s'→U64 s'∧s'.n=s.n
 | 0,_,_,_,s,s',h,e=>by cases e;exact⟨h,rfl⟩
 | k+1,i,a,f,s,s',h,e=>by
   unfold pT at e
   obtain⟨_,s1,e1,e⟩:=aH e
   have h1:=cu h (h.load _) e1
   have h2:=tT k _ _ _ s1 s' h1.1 e
   exact⟨h2.1,h2.2.trans h1.2⟩
theorem jL{S:bE}{s s':Dev}{w:Int}{r:Int×bE}(hu:U64 s)(e:S.copied s w= .ok r s'):U64 s'∧s'.n=s.n:=by
 unfold bE.copied at e
 split at e
 ·cases e;exact⟨hu,rfl⟩
 split at e
 ·cases e;exact⟨hu,rfl⟩
 split at e
 ·cases e;exact⟨hu,rfl⟩
 obtain⟨_,s1,e1,e⟩:=aH e
 cases e;exact tT _ _ _ _ _ _ hu e1
theorem pG(B:World)(Fr:List HP)(x:Nat)(S:bE)(hS:fc S)(s:Dev)(hu:U64 s)(v:Int)(hv:0≤v∧v<18446744073709551616):
 ∀ w,Holds B (eS x S::aB S.bd s::Fr) w→Calls Tryz.prog 202 [ptr x,w64 v].toArray w (Ret B (fun rv H'=>∃ r s',S.copied s v= .ok r s'∧rv=i64 r.1∧H'=eS x r.2::aB S.bd s'::Fr) (fun c H'=>∃ s',S.copied s v= .off s'∧c=dP∧H'=aB S.bd s'::Fr)):=by
 refine ap func202 aa ntmps202 aa (jG fun rsv tsv mw hrsv htsv=> ?_)
 have hfb:=hS.fb
 have hfr:=hS.free
 have hto:=hS.to_
 refine ac (ab (kPa aa aa (ad (ac (ac (ab (kPf l7 isAgg245 aa aa aa aa (kPm aa aa (kPv ((fu runUnderlying245 runUnderlying25 zeroValue3 aa aa).eq (congrArg (fun v=>Value.tuple #[v,.bool _]) (oS _))) aa (kPm aa aa (kPv (aA aa aa) aa ?_)))))))))))
 refine kPv (aA aa aa) aa (kPa aa aa (kPa aa aa (ad (am [6,5,4,0,1] rfl (ac (ab (kPm aa aa (ad ?_))))))))
 refine aZ aa (fun h20=> ?_) (fun h20=> ?_)
 ·have h1:(bJ S.went v).isSome=true:=by simpa using h20
  have hres:S.copied s v= .ok ((bJ S.went v).getD 0,S) s:=by unfold bE.copied;rw[if_pos h1]
  refine ac (ab (kPm aa aa (kPa aa aa (ad (ay ?_)))))
  exact au results202 aa (fun w hh=>⟨_,⟨_,_,hres,rfl,rfl⟩,cB hrsv htsv hh⟩)
 ·have h1:¬ (bJ S.went v).isSome=true:=by simpa using h20
  refine aq (ac (ac (cM Tryz.mixed (by kernel_rfl) (by kernel_rfl) ?_)))
  refine kQm aa aa (kQv (aK aa) aa (kQv (aE (m:=_) l9 aa aa) aa (kQv (ah isAgg151 sizeOf151 aa aa) aa ?_)))
  refine kQm aa aa (kQv (aK aa) aa (kQv (aE (m:=_) tK aa aa) aa (kQv (ah isAgg134 sizeOf134 aa aa) aa ?_)))
  refine kQm aa aa (bF aa (ar call182 aa) (ry _ _ S.c hS.c S.b rsv hS.b hrsv _ hv) .free aa ?_)
  refine kQv (bj aa) aa (ce (am [32,4,0,1] rfl ?_))
  refine aZ aa (fun h32=> ?_) (fun h32=> ?_)
  ·have h2:S.b.has S.c v=false:=by simpa using h32
   have hres:S.copied s v= .ok (0,S) s:=by unfold bE.copied;rw[if_neg h1,if_pos h2]
   refine ac (ab (kPa aa aa (ad (ay ?_))))
   exact au results202 aa (fun w hh=>⟨_,⟨_,_,hres,rfl,rfl⟩,cB hrsv htsv hh⟩)
  ·have hh0:S.b.has S.c v=true:=by simpa using h32
   have h2:¬ S.b.has S.c v=false:=by rw[hh0];decide
   have hvb:=kD hS.c hS.b hh0
   refine aq (ac ?_)
   refine kP (.br [0,1,2,3,4,5,6,7,8,9,10,11,12,13] 14 (.fin [15,16,17,18,19,20]) 18 (.fin [14,15,16,17,19,20])) [14,18,19] [0,1,2,3,4,5,6,7,8,9,10,11,12,13,15,16,17] [18,19] [row x (eR S rsv tsv mw) 247] [4,0,1] (G:=Nat) (fun b7=>[(7,ptr b7),(8,i64 (s.objOf S.c S.b v).2)]) (fun b7=>row b7 [i64 (s.objOf S.c S.b v).1.1,i64 (s.objOf S.c S.b v).1.2.1,i64 (s.objOf S.c S.b v).1.2.2] 160::row x (eR S rsv tsv mw) 247::cS 0 (rsv,S.b.rts)::cS 0 (tsv,S.todo)::bu .u64 i64 mw S.went::aB S.bd s::Fr) Tryz.mixed (by kernel_rfl) ?_ ?_
   ·skip
    refine wV (an aa aa aa (aj aa) .free aa (an aa aa aa (aK aa) .free aa (an aa aa aa (aE (m:=_) gP aa aa) .free aa (an aa aa aa (ai isAgg90 aa aa) .free aa (an aa aa aa (aj aa) .free aa (an aa aa aa (aK aa) .free aa (an aa aa aa (aE (m:=_) tK aa aa) .free aa (an aa aa aa (ah isAgg134 sizeOf134 aa aa) .free aa ?_))))))))
    refine an aa aa aa (aj aa) .free aa (an aa aa aa (aK aa) .free aa (an aa aa aa (aE (m:=_) l9 aa aa) .free aa (an aa aa aa (ah isAgg151 sizeOf151 aa aa) .free aa ?_)))
    refine an aa aa aa (aj aa) .free aa ?_
    have hvb:=kD hS.c hS.b hh0
    refine an aa aa aa (cX runUnderlying25 runUnderlying3 aa (fN (by omega))) .free aa (cF ?_)
    refine p5 aa aa ?_ ?_
    ·skip
     refine aw aa (ar call147 aa) (bH (q:=aB) (fun Fr=>j5 _ Fr _ _ S.c hS.c S.b rsv hS.b hrsv v (by omega))) .free aa aa ?_
     refine ad (sf aa (jQ (an aa aa aa (aj aa) .free aa (an aa aa aa (aA aa aa) .free aa (an aa aa aa (aA aa aa) .free aa (aT aa aa (kPb (aD zeroValue160 aa) aa fun b7=>(ad (cL (aT aa aa (kPs (az (vs:=_) sizeOf160 aa aa aa aa aa) aa ?_)))))))))))
     refine ad (cL (aP aa aa aa (bD aa) .free aa (cF ?_)))
     exact fun a w st_=>⟨b7,st_.to (aC aa) (fun hh=>hh)⟩
    ·skip
     refine kPb (aD zeroValue160 aa) aa fun b7=>(ad (un (jQ (aT aa aa (aw aa (ar call147 aa) (bH (q:=aB) (fun Fr=>j5 _ Fr _ _ S.c hS.c S.b rsv hS.b hrsv v (by omega))) .free aa aa ?_)))))
     refine ad (c6 aa (an aa aa aa (aj aa) .free aa (an aa aa aa (aA aa aa) .free aa (an aa aa aa (aA aa aa) .free aa (aT aa aa (kPs (az (vs:=_) sizeOf160 aa aa aa aa aa) aa (ad (cL (aP aa aa aa (bD aa) .free aa (cF ?_))))))))))
     exact fun a w st_=>⟨b7,st_.to (aC aa) (fun hh=>hh)⟩
   intro b7
   refine bZ (σ':=[(7,ptr b7),(8,i64 (s.objOf S.c S.b v).2),(4,_),(0,_),(1,_)]) (aC aa) (ac (ac (ab (kPm aa aa (kPv (al aa aa aa) aa (ad ?_))))))
   refine aZ aa (fun h52=> ?_) (fun h52=> ?_)
   ·have h3:(s.objOf S.c S.b v).2≠0:=by simpa using h52
    have hres:S.copied s v= .ok (0,S) s:=by unfold bE.copied;rw[if_neg h1,if_neg h2,if_pos h3]
    refine ac (ab (kPa aa aa (ad (ay ?_))))
    exact au results202 aa (fun w hh=>⟨_,⟨_,_,hres,rfl,rfl⟩,cB hrsv htsv (hh.dp [0])⟩)
   ·have h3:¬ (s.objOf S.c S.b v).2≠0:=by simpa using h52
    have ho:=hG hS.c hS.b (a:=v) (s:=s) (by omega)
    have ho1:=ho.w
    have ho3:=ho.at_
    have hcp:S.copied s v=(pT ((s.objOf S.c S.b v).1.1+1).toNat 0 S.free (s.objOf S.c S.b v).1.2.2 s).then fun _ s'=> .ok (S.free,{S with free:=S.free+((s.objOf S.c S.b v).1.1+1),went:=mset S.went v S.free}) s':=by unfold bE.copied;rw[if_neg h1,if_neg h2,if_neg h3]
    refine aq (ac (ab (kPf ip isAgg3 aa aa aa aa (kPa aa aa (ad (am [9,7,4,0,1] rfl (ac (ac (ab (kPv (aE (m:=_) eX aa aa) aa (kPv (ah isAgg102 sizeOf102 aa aa) aa ?_)))))))))))
    refine aw aa (ar call139 aa) (eF _ _ _ _ (by omega)) .free aa aa ?_
    refine kPm aa aa (ad (aF ?_))
    refine cy (ι:=Nat×Dev) [59,9,7,4,0,1] (fun (i,sI)=>((i:Int)≤(s.objOf S.c S.b v).1.1+1)∧(pT ((s.objOf S.c S.b v).1.1+1).toNat 0 S.free (s.objOf S.c S.b v).1.2.2 s=pT (((s.objOf S.c S.b v).1.1+1).toNat - i) i S.free (s.objOf S.c S.b v).1.2.2 sI)) (fun (i,sI)=>[(60,i64 i)]) (fun (i,sI)=>row b7 [i64 (s.objOf S.c S.b v).1.1,i64 (s.objOf S.c S.b v).1.2.1,i64 (s.objOf S.c S.b v).1.2.2] 160::row x (eR S rsv tsv mw) 247::cS 0 (rsv,S.b.rts)::cS 0 (tsv,S.todo)::bu .u64 i64 mw S.went::aB S.bd sI::Fr) (fun (i,sI)=>((s.objOf S.c S.b v).1.1+1).toNat - i) (0,s) (⟨by first | omega | (simp only;omega),rfl⟩) (fun a w st=>st.to ⟨rfl,trivial⟩ (fun hh=>hh)) ?_
    rintro⟨i,sI⟩ ⟨hi0,hinv⟩
    try simp only at hi0 hinv ⊢
    refine bZ (σ':=[(60,i64 i),(59,_),(9,_),(7,_),(4,_),(0,_),(1,_)]) (aC aa) (ac (ab (kPv (al aa aa aa) aa (ad (ac ?_)))))
    refine aZ aa (fun h61=> ?_) (fun h61=> ?_)
    ·have hi:(i:Int)<(s.objOf S.c S.b v).1.1+1:=by simpa using h61
     refine aq (ac (aF (ac (ab (kPm aa aa (kPa aa aa (ad (cW 16 Tryz.mixed (by kernel_rfl) (by kernel_rfl) ?_))))))))
     refine kQm aa aa (kQv (aK aa) aa (kQv (aE (m:=_) gP aa aa) aa (kQv (ai isAgg90 aa aa) aa (kQm aa aa (kQm aa aa (kQv (aL aa aa) aa (kQm aa aa (kQv (aK aa) aa (kQv (aE (m:=_) gP aa aa) aa (kQv (ai isAgg90 aa aa) aa (kQv (aE (m:=_) kr aa aa) aa ?_)))))))))))
     refine kQv (ai isAgg3 aa aa) aa (kQm aa aa (kQv (aL aa aa) aa (bF aa (ar call173 aa) (bH (q:=aB) (fun Fr=>cq _ Fr _ _ _)) .free aa ?_)))
     refine ce ?_
     refine aU aa (ar call145 aa) (cD (fun Fr=>cz _ Fr _ _ _ _)) .free aa aa ?_ ?_
     rotate_left
     ·rintro _ _ ⟨s9,⟨hm9,rfl⟩,rfl⟩
      exact ba fun w hh=>⟨_,⟨s9,by rw[hcp,hinv,show((s.objOf S.c S.b v).1.1+1).toNat - i=(((s.objOf S.c S.b v).1.1+1).toNat - (i+1))+1 by omega,mP,hm9];rfl,rfl,rfl⟩,(hh.dp [0,0,0,0,0])⟩
     rintro _ _ ⟨s1,⟨e1,hm1,rfl⟩,rfl⟩
     refine ad (am [60,59,9,7,4,0,1] rfl (ab (kPv (aL aa aa) aa (kPm aa aa (ad ?_)))))
     exact fun a w st_=>⟨(i+1,s1),⟨by first | omega | (simp only;omega),by rw[hinv,show((s.objOf S.c S.b v).1.1+1).toNat - i=(((s.objOf S.c S.b v).1.1+1).toNat - (i+1))+1 by omega,mP,hm1];rfl⟩,by first | omega | (simp only;omega),st_.to (aC aa) (fun hh=>hh)⟩
    ·have hi:¬ (i:Int)<(s.objOf S.c S.b v).1.1+1:=by simpa using h61
     refine bz (ac (cW 10 Tryz.mixed (by kernel_rfl) (by kernel_rfl) ?_))
     refine kQm aa aa (kQv (aK aa) aa (kQv (aE (m:=_) ip aa aa) aa (kQv (ai isAgg3 aa aa) aa (kQv (aE (m:=_) eX aa aa) aa (kQv (ah isAgg102 sizeOf102 aa aa) aa ?_)))))
     refine bF aa (ar call139 aa) (eF _ _ _ _ (by omega)) .free aa ?_
     refine kQv (aL aa aa) aa (kQv (aK aa) aa (kQv (aE (m:=_) ip aa aa) aa (ce (kPs (aO sizeOf3 aa aa aa aa) aa (ad (am [9,4,0,1] rfl (ac (ab (kPf l7 isAgg245 aa aa aa aa (kPm aa aa (kPm aa aa ?_)))))))))))
     refine kPs (gD (enc:=i64) runUnderlying245 runUnderlying25 aa aa aa aa) aa (ad (am [9,4] rfl (ac (ab (kPm aa aa (kPa aa aa (ad (ay ?_))))))))
     exact au results202 aa (fun w hh=>⟨_,⟨_,_,by rw[hcp,hinv,show((s.objOf S.c S.b v).1.1+1).toNat - i=0 by omega];rfl,rfl,rfl⟩,cB (S:={S with free:=S.free+((s.objOf S.c S.b v).1.1+1),went:=mset S.went v S.free}) hrsv htsv (hh.dp [0])⟩)
theorem ra:∀ (k:Nat) (i:Int) (S S':bE) (s s':Dev),fc S→U64 s→S.todo=[]→jR k i S s= .ok S' s'→fc S'∧U64 s'∧S'.scan=S.scan∧S'.todo=[]∧S'.done=S.done∧S'.b=S.b∧S'.bd=S.bd∧S'.c=S.c∧S'.to_=S.to_∧S.free≤S'.free∧S'.free - S.free+66*(S.b.used.toNat - S'.went.length:Nat)≤66*(S.b.used.toNat - S.went.length:Nat)
 | 0,_,S,S',s,s',h,hu,ht,e=>by cases e;exact⟨h,hu,rfl,ht,rfl,rfl,rfl,rfl,rfl,Int.le_refl _,by omega⟩
 | k+1,i,S,S',s,s',h,hu,ht,e=>by
   unfold jR at e
   split at e
   ·exact ra k _ S S' s s' h hu ht e
   ·obtain⟨r,s1,e1,e⟩:=aH e
    obtain⟨_,s2,e2,e⟩:=aH e
    obtain⟨h1,hv,h2,h3,h4,h5,h6,h7,h8,h9,h10⟩:=mm h e1
    have u1:=jL hu e1
    have u2:=cu u1.1 (by omega) e2
    obtain⟨g1,gu,g2,g3,g4,g5,g6,g7,g8,g9,g10⟩:=ra k _ r.2 S' s2 s' h1 u2.1 (h3.trans ht) e
    rw[h5] at g10
    exact⟨g1,gu,g2.trans h2,g3,g4.trans h4,g5.trans h5,g6.trans h6,g7.trans h7,g8.trans h8,Int.le_trans h9 g9,by omega⟩
theorem qs:∀ (f:Nat) (i e:Int) (s s':Dev) (a:Unit),U64 s→lV f i e s= .ok a s'→U64 s'
 | 0,_,_,s,s',a,h,e=>by cases e;exact h
 | f+1,i,e',s,s',a,h,e=>by
   unfold lV at e
   split at e
   ·obtain⟨_,s1,e1,e⟩:=aH e
    exact qs f _ _ s1 s' a (dG h e1).1 e
   ·cases e;exact h
theorem y6{S:bE}{s s':Dev}{a:Unit}(h:U64 s)(e:S.keep s= .ok a s'):U64 s':=by
 unfold bE.keep at e
 obtain⟨_,s1,e1,e⟩:=aH e
 have h1:=qs _ _ _ _ _ _ h e1
 split at e
 ·exact(eN h1 e).1
 ·cases e;exact h1
theorem qX{S:bE}(h:fc S){s s':Dev}(hu:U64 s){r:Bool×bE}(e:S.step s= .ok r s'):fc r.2∧U64 s'∧r.2.b=S.b∧r.2.bd=S.bd∧r.2.c=S.c∧r.2.to_=S.to_∧r.1=r.2.done∧(r.1=false→r.2.meas<S.meas):=by
 have hwl:=h.wl;have hfb:=h.fb
 unfold bE.step at e
 split at e
 ·rename_i hd;cases e;exact⟨h,hu,rfl,rfl,rfl,rfl,hd.symm,fun hh=>by cases hh⟩
 rename_i hd
 have hd0:S.done=false:=by simpa using hd
 split at e
 ·rename_i w t ht
  obtain⟨r1,s1,e1,e⟩:=aH e
  cases e
  obtain⟨h1,_,h2,h3,h4,h5,h6,h7,h8,h9,h10⟩:=mm h e1
  refine⟨⟨h1.c,h1.b,h1.rl,h1.to_,h1.scan,h1.free,h1.nd,h1.rng,h1.val,fun v hv=>h.todo v (by rw[ht];exact List.mem_cons_of_mem _ hv),h1.rts⟩,(jL hu e1).1,h5,h6,h7,h8,by simp only[h4,hd0],fun _=> ?_⟩
  unfold bE.meas
  simp only[ht,h2,h4,h5,List.length_cons]
  split<;>omega
 ·rename_i ht
  have hub:=p4 (s.load S.scan)
  split at e
  ·rename_i hlt
   obtain⟨S1,s1,e1,e⟩:=aH e
   cases e
   obtain⟨h1,gu,h2,h3,h4,h5,h6,h7,h8,h9,h10⟩:=ra _ _ _ _ _ _ h hu ht e1
   have hsc:=h.scan
   refine⟨⟨h1.c,h1.b,h1.rl,h1.to_,⟨by have:=h1.scan;simp only;omega,by simp only;omega⟩,h1.free,h1.nd,h1.rng,h1.val,h1.todo,h1.rts⟩,gu,h5,h6,h7,h8,by simp only[h4,hd0],fun _=> ?_⟩
   unfold bE.meas
   simp only[ht,h2,h3,h4,h5]
   split<;>omega
  ·obtain⟨_,s1,e1,e⟩:=aH e
   cases e
   exact⟨⟨h.c,h.b,h.rl,h.to_,h.scan,h.free,h.nd,h.rng,h.val,h.todo,h.rts⟩,y6 hu e1,rfl,rfl,rfl,rfl,rfl,fun hh=>by cases hh⟩
def CY(x bd:Nat)(sc:Int):HP:=hex fun (y:Nat→Value)=>row x [ptr bd,y 1,y 2,y 3,y 4,y 5,y 6,y 7,i64 sc,y 9,y 10,y 11,y 12] 247
theorem Dp{B:World}{x:Nat}{S:bE}{Fr:List HP}{w:World}(h:Holds B (eS x S::Fr) w):Holds B [CY x S.bd S.scan] w:=by
 obtain⟨p,hx⟩:=h.hex
 refine Holds.unhex (fun i=>(eR S p.1 p.2.1 p.2.2).getD i .nilIface) ?_
 have h2:=hx.grp
 exact h2.map fun k a=>by
  obtain⟨h1,h2,d,s1,s2,ha,hl⟩:=a
  exact⟨h1,h2,d,s1,s2,ha,trivial⟩
instance pY.colf {H Fr:List HP} {x:Nat} {S:bE} [r:pK H (eS x S) Fr]:pY H [CY x S.bd S.scan]:=⟨fun h hh=>by
 obtain⟨i,h1,h2⟩:=r.get
 obtain⟨k1,k2,d,s1,s2,⟨p,hp⟩,hl⟩:=dw i h1 hh
 obtain⟨g1,g2,d',t1,t2,ha,hg⟩:=hp
 exact⟨g1,fun _=>none,fun _=> .inr aa,t1.trans s1,(fun _ _ e=>nomatch e),⟨fun i=>(eR S p.1 p.2.1 p.2.2).getD i .nilIface,ha⟩,trivial⟩⟩
theorem zO{B:World}{σ:Env}{P:Program}{α:Type}{A:α→HP}{o:Oper}{v:Value}(h:∀ y,Evs P B σ [A y] o v):Evs P B σ [hex A] o v:=fun a w kn hh=>by
 obtain⟨y,hy⟩:=hh.hex
 exact h y a w kn hy
theorem AZ{B:World}{n:Nat}{D:List Deferred}{σ:Env}{H H0:List HP}{P:Program}{ro:Cx}{K:Act→World→Prop}{X:Ext}{ops:Array Oper}{ms hs cs:List Nat}{ord:List Nat}{c:Bool}(f:∀ w,Holds B H w→Holds B H0 w)(h:GO B n D σ H (wpV P ro ops ms hs cs (Holds B H0) X K ord)):GO B n D σ H (fun a w=>(c=true→Holds B H0 w)∧wpV P ro ops ms hs cs (Holds B H0) X K ord a w):=fun a w s=>⟨fun _=>f w s.holds,h a w s⟩
theorem gA(f:Nat)(i e:Int)(s:Dev):lV (f+1) i e s=if i<e then (s.flush i).then fun _ s'=>lV f (i+8) e s' else .ok () s:=rfl
theorem ic(k:Nat)(i:Int)(S:bE)(s:Dev):jR (k+1) i S s=if s.load (S.scan+1+i)=0 then jR k (i+1) S s else (S.copied s (s.load (S.scan+1+i))).then fun r s1=>(s1.store (S.scan+1+i) r.1).then fun _ s2=>jR k (i+1) r.2 s2:=rfl
theorem iX(f:Nat)(S:bE)(s:Dev):uB (f+1) S s=(S.step s).then fun r s'=>if r.1=true then .ok r.2 s' else uB f r.2 s':=rfl
theorem Ac(B:World)(Fr:List HP)(x:Nat)(S:bE)(hS:fc S)(s:Dev)(hu:U64 s):
 ∀ w,Holds B (eS x S::aB S.bd s::Fr) w→Calls Tryz.prog 203 [ptr x].toArray w (Ret B (fun rv H'=>∃ r s',S.keep s= .ok r s'∧rv=BG r∧H'=eS x {S with done:=true}::aB S.bd s'::Fr) (fun c H'=>∃ s',S.keep s= .off s'∧c=dP∧H'=aB S.bd s'::Fr)):=by
 refine ap func203 aa ntmps203 aa (jG fun rsv tsv mw hrsv htsv=> ?_)
 have hfb:=hS.fb
 have hfr:=hS.free
 have hto:=hS.to_
 refine ac (ac (ab (kPf pu isAgg3 aa aa aa aa (kPa aa aa (ad (aF ?_))))))
 refine cy (ι:=Int×Nat×Dev) [0] (fun (i,n,sI)=>(S.to_≤i∧i≤400000)∧(S.free - i≤n)∧(lV ((S.free - S.to_).toNat+1) S.to_ S.free s=lV (n+1) i S.free sI)) (fun (i,n,sI)=>[(2,i64 i)]) (fun (i,n,sI)=>row x (eR S rsv tsv mw) 247::cS 0 (rsv,S.b.rts)::cS 0 (tsv,S.todo)::bu .u64 i64 mw S.went::aB S.bd sI::Fr) (fun (i,n,sI)=>n) (S.to_,(S.free - S.to_).toNat,s) (⟨⟨by first | omega | (simp only;omega),by first | omega | (simp only;omega)⟩,by first | omega | (simp only;omega),rfl⟩) (fun a w st=>st.to ⟨rfl,trivial⟩ (fun hh=>hh)) ?_
 rintro⟨i,n,sI⟩ ⟨hi0,hn,hinv⟩
 try simp only at hi0 hn hinv ⊢
 refine bZ (σ':=[(2,i64 i),(0,_)]) ⟨rfl,rfl,trivial⟩ (ac (ac (ab (kPm aa aa (kPf ip isAgg3 aa aa aa aa (kPv (al aa aa aa) aa (ad ?_)))))))
 refine aZ aa (fun h12=> ?_) (fun h12=> ?_)
 ·have hlt:i<S.free:=by simpa using h12
  refine aq (ac (aF (ab (kPf gP isAgg90 aa aa aa aa (kPm aa aa ?_)))))
  refine aU aa (ar call151 aa) (cD (fun Fr=>dx _ Fr _ _ _)) .free aa aa ?_ ?_
  rotate_left
  ·rintro _ _ ⟨s9,⟨hm9,rfl⟩,rfl⟩
   exact ba fun w hh=>⟨_,⟨s9,by unfold bE.keep;rw[hinv,gA,if_pos hlt,hm9];rfl,rfl,rfl⟩,(hh.dp [0,0,0,0])⟩
  rintro _ _ ⟨s1,⟨e1,hm1,rfl⟩,rfl⟩
  refine ad (am [2,0] rfl (ab (kPm aa aa (kPv (aL aa aa) aa (kPa aa aa (ad ?_))))))
  exact fun a w st_=>⟨(i+8,n - 1,s1),⟨by first | omega | (simp only;omega),by first | omega | (simp only;omega),by rw[hinv,gA,if_pos hlt,hm1,show n=n - 1+1 by omega];rfl⟩,by first | omega | (simp only;omega),st_.to ⟨rfl,rfl,trivial⟩ (fun hh=>hh)⟩
 ·have hlt:¬ i<S.free:=by simpa using h12
  refine bz (ac (ac (cM Tryz.mixed (by kernel_rfl) (by kernel_rfl) ?_)))
  refine kQm aa aa (kQv (aK aa) aa (kQv (aE (m:=_) ip aa aa) aa (kQv (ai isAgg3 aa aa) aa (kQm aa aa (kQv (aK aa) aa (kQv (aE (m:=_) pu aa aa) aa (kQv (ai isAgg3 aa aa) aa (kQv (al aa aa aa) aa (ce (am [29,0] rfl ?_))))))))))
  refine aZ aa (fun h29=> ?_) (fun h29=> ?_)
  ·have hgt:S.to_<S.free:=by simpa using h29
   refine ab (kPf gP isAgg90 aa aa aa aa ?_)
   refine aU aa (ar call152 aa) (cD (fun Fr=>eM _ Fr _ _)) .free aa aa ?_ ?_
   rotate_left
   ·rintro _ _ ⟨s9,⟨hm9,rfl⟩,rfl⟩
    exact ba fun w hh=>⟨_,⟨s9,by unfold bE.keep;rw[hinv,gA,if_neg hlt];simp only[aR];rw[if_pos hgt];exact hm9,rfl,rfl⟩,(hh.dp [0,0,0,0])⟩
   rintro _ _ ⟨s2,⟨e2,hm2,rfl⟩,rfl⟩
   refine ad (ab (kPm aa aa (kPv (aK aa) aa (kPv (aE (m:=_) io aa aa) aa (kPs (aO sizeOf4 aa aa aa aa) aa (ad (am [] rfl ?_)))))))
   exact cP results203 (fun w hh=>⟨_,⟨(),_,by unfold bE.keep;rw[hinv,gA,if_neg hlt];simp only[aR];rw[if_pos hgt];exact hm2,rfl,rfl⟩,cB (S:={S with done:=true}) hrsv htsv hh⟩)
  ·have hgt:¬ S.to_<S.free:=by simpa using h29
   refine aq (ab (kPm aa aa (kPv (aK aa) aa (kPv (aE (m:=_) io aa aa) aa (kPs (aO sizeOf4 aa aa aa aa) aa (ad ?_))))))
   exact cP results203 (fun w hh=>⟨_,⟨(),_,by unfold bE.keep;rw[hinv,gA,if_neg hlt];simp only[aR];rw[if_neg hgt],rfl,rfl⟩,cB (S:={S with done:=true}) hrsv htsv hh⟩)
theorem tQ(B:World)(Fr:List HP)(x:Nat)(S:bE)(v:Int):
 ∀ w,Holds B (eS x S::Fr) w→Calls Tryz.prog 118 [ptr x,w64 v].toArray w (a8 B (eS x S::Fr) (i64 ((bJ S.went v).getD 0))):=by
 refine ap func118 aa ntmps118 aa (jG fun rsv tsv mw hrsv htsv=>(ac (ab (kPa aa aa (ad (ac (ab (kPf l7 isAgg245 aa aa aa aa (kPm aa aa (kPv ((lu runUnderlying245 runUnderlying25 zeroValue3 aa aa).eq (oS _)) aa (kPa aa aa ?_)))))))))))
 refine ad (am [4] rfl (ay ?_))
 exact au results118 aa (fun w hh=>⟨rfl,cB hrsv htsv hh⟩)
theorem pC(B:World)(Fr:List HP)(x:Nat)(S:bE)(hS:fc S)(s:Dev)(hu:U64 s):
 ∀ w,Holds B (eS x S::aB S.bd s::Fr) w→Calls Tryz.prog 166 [ptr x].toArray w (Ret B (fun rv H'=>∃ r s',S.step s= .ok r s'∧rv= .bool r.1∧H'=eS x r.2::aB S.bd s'::Fr) (fun c H'=>∃ s',S.step s= .off s'∧c=dP∧H'=aB S.bd s'::Fr)):=by
 refine ap func166 aa ntmps166 aa (jG fun rsv tsv mw hrsv htsv=> ?_)
 have hfb:=hS.fb
 have hfr:=hS.free
 have hto:=hS.to_
 have hscan:=hS.scan
 have hub:=p4 (s.load S.scan)
 refine ac (ab (kPa aa aa (ad (ac (aF (ac (ab (kPf io isAgg4 aa aa aa aa (kPa aa aa (ad ?_))))))))))
 refine aZ aa (fun h9=> ?_) (fun h9=> ?_)
 ·have hdone:S.done=true:=h9
  have hres:S.step s= .ok (true,S) s:=by unfold bE.step;rw[if_pos hdone]
  refine aq (ac (ab (kPf io isAgg4 aa aa aa aa (kPa aa aa (ad (am [2] rfl (ay ?_)))))))
  exact au results166 aa (fun w hh=>⟨_,⟨_,_,hres,by rw[hdone],rfl⟩,cB hrsv htsv hh⟩)
 ·have hdone:S.done=false:=h9
  refine aS [2] (cC fun qt ct hqt hqi=> ?_)
  subst hqt
  refine aS [1,1,0,0] (ac (ab (kPf l8 isAgg30 aa aa aa aa (kPv (bB aa runUnderlying30 ⟨_,rfl⟩ rfl) aa (kPv (al aa aa aa) aa (kPa aa aa (ad (am [14,2,0] rfl ?_))))))))
  refine aZ aa (fun h14=> ?_) (fun h14=> ?_)
  ·obtain⟨v,t,htd⟩:∃ v t,S.todo=v::t:=by
    cases ht:S.todo with
    | nil=>rw[ht] at h14;simp at h14
    | cons v t=>exact⟨v,t,rfl⟩
   obtain⟨bq,oq,rfl⟩:=hqi 0 (by rw[htd];exact Nat.succ_pos _)
   refine ac (ab (kPm aa aa (kPf l8 isAgg30 aa aa aa aa (kPv (cj runUnderlying30 sizeOf25 aa aa (by decide) (by rw[htd];simp only[List.length_cons];omega)) aa (kPv (bM (v:=w64 v) isAgg25 (cO 2 aa) aa (by rw[htd];rfl)) aa (aN (fun w hh=>cB hrsv htsv hh) ?_))))))
   refine aU aa (ar call202 aa) (pG B _ x S hS s hu v (hS.todo _ (by rw[htd];exact List.mem_cons_self ..))) .free aa aa ?_ ?_
   rotate_left
   ·rintro _ _ ⟨s9,hm9,rfl,rfl⟩
    exact ba fun w hh=>⟨_,⟨s9,by unfold bE.step;rw[if_neg (by rw[hdone];decide)];simp only[htd];rw[hm9];rfl,rfl,rfl⟩,hh⟩
   rintro _ _ ⟨r1,s1,hm1,rfl,rfl⟩
   obtain⟨hS1,hrv1,hsc1,htd1,hdn1,hb1,hbd1,hc1,hto1,hfr1,hms1⟩:=mm hS hm1
   have hu1:=(jL hu hm1).1
   refine ad (am [2,0] rfl (ab (jG fun rsv2 tsv2 mw2 hrsv2 htsv2=>(kPm aa aa (kPm aa aa (kPv (aK aa) aa (kPv (aE (m:=_) l8 aa aa) aa (aS [2] (aN (H':=cS 0 (tsv2,v::t)::_) (fun w hh=>by rw[htd1,htd] at hh;exact hh) (kPv (ai isAgg30 aa aa) aa (cK aa (tZ (v:=v) (xs:=t) runUnderlying30 sizeOf25 aa aa) .free aa aa ?_)))))))))))
   rintro tv3 _ ⟨htv3,rfl⟩
   refine aS [1,1] (kPv (aK aa) aa (kPv (aE (m:=_) l8 aa aa) aa ?_))
   refine kPs (aO sizeOf30 aa aa (by first | rfl | assumption) rfl) rfl ?_;refine ad ?_;refine am [2,0] rfl ?_;refine ac ?_;refine ab ?_;refine kPf io isAgg4 aa aa aa aa ?_;refine kPa aa aa ?_;refine ad ?_;refine ay ?_
   exact au results166 aa (fun w hh=>⟨_,⟨_,_,by unfold bE.step;rw[if_neg (by rw[hdone];decide)];simp only[htd];rw[hm1];rfl,by rw[hdn1,hdone],rfl⟩,cB (S:={r1.2 with todo:=t}) hrsv2 htv3 hh⟩)
  ·have htd:S.todo=[]:=by
    cases ht:S.todo with
    | nil=>rfl
    | cons v t=>rw[ht] at h14;simp at h14<;>omega
   refine ac (cM Tryz.mixed (by kernel_rfl) (by kernel_rfl) ?_)
   refine kQm aa aa (kQv (aK aa) aa (kQv (aE (m:=_) jb aa aa) aa (kQv (ai isAgg3 aa aa) aa (kQm aa aa (kQv (aK aa) aa (kQv (aE (m:=_) ip aa aa) aa (kQv (ai isAgg3 aa aa) aa (kQv (al aa aa aa) aa (kQa aa aa (ce (am [37,2,0] rfl ?_)))))))))))
   refine aZ aa (fun h37=> ?_) (fun h37=> ?_)
   ·have hlt:S.scan<S.free:=by simpa using h37
    have hstep:S.step s=(jR (unp (s.load S.scan)).2.1.toNat 0 S s).then fun S' s'=> .ok (false,{S' with scan:=S'.scan+((unp (s.load S.scan)).1+1)}) s':=by unfold bE.step;rw[if_neg (by rw[hdone];decide)];simp only[htd];rw[if_pos hlt]
    refine ac ?_
    refine kP (.br [0,1,2,3,4,5,6,7] 8 (.br [] 9 (.fin [10,11,12,13,14,15]) 13 (.fin [9,10,11,12,14,15])) 13 (.fin [8,9,10,11,12,14,15])) [8,9,13,14] [0,1,2,3,4,5,6,7,10,11,12] [13,14] [row x (eR S rsv (.slice qt S.todo.length ct) mw) 247] [2,0] (G:=Nat) (fun b3=>[(3,ptr b3),(4,.bool (unp (s.load S.scan)).2.2)]) (fun b3=>row b3 [i64 (unp (s.load S.scan)).1,i64 (unp (s.load S.scan)).2.1] 102::row x (eR S rsv (.slice qt S.todo.length ct) mw) 247::cS 0 (rsv,S.b.rts)::cS 0 (.slice qt S.todo.length ct,S.todo)::bu .u64 i64 mw S.went::aB S.bd s::Fr) Tryz.mixed (by kernel_rfl) ?_ ?_
    ·skip
     refine wV (an aa aa aa (aj aa) .free aa (an aa aa aa (aK aa) .free aa (an aa aa aa (aE (m:=_) gP aa aa) .free aa (an aa aa aa (ai isAgg90 aa aa) .free aa (an aa aa aa (aj aa) .free aa (an aa aa aa (aK aa) .free aa (an aa aa aa (aE (m:=_) jb aa aa) .free aa (an aa aa aa (ai isAgg3 aa aa) .free aa (cF ?_)))))))))
     refine p5 aa aa ?_ ?_
     ·skip
      refine aw aa (ar call173 aa) (bH (q:=aB) (fun Fr=>cq _ Fr _ _ _)) .free aa aa ?_
      refine ad (sf aa (wV (cF ?_)))
      refine p5 aa aa ?_ ?_
      ·skip
       refine aw aa (ar call190 aa) (iT _ _ _) .free aa aa ?_
       refine ad (sf aa (jQ (an aa aa aa (aj aa) .free aa (an aa aa aa (aA aa aa) .free aa (an aa aa aa (aA aa aa) .free aa (aT aa aa (kPb (aD zeroValue102 aa) aa fun b3=>(ad (cL (aT aa aa (kPs (az (vs:=_) sizeOf102 aa aa aa aa aa) aa ?_)))))))))))
       refine ad (cL (aP aa aa aa (bD aa) .free aa (cF ?_)))
       exact fun a w st_=>⟨b3,st_.to (aC aa) (fun hh=>hh)⟩
      ·skip
       refine kPb (aD zeroValue102 aa) aa fun b3=>(ad (un (jQ (aT aa aa (aw aa (ar call190 aa) (iT _ _ _) .free aa aa ?_)))))
       refine ad (c6 aa (an aa aa aa (aj aa) .free aa (an aa aa aa (aA aa aa) .free aa (an aa aa aa (aA aa aa) .free aa (aT aa aa (kPs (az (vs:=_) sizeOf102 aa aa aa aa aa) aa (ad (cL (aP aa aa aa (bD aa) .free aa (cF ?_))))))))))
       exact fun a w st_=>⟨b3,st_.to (aC aa) (fun hh=>hh)⟩
     ·skip
      refine kPb (aD zeroValue102 aa) aa fun b3=>(ad (un (jQ (aT aa aa (aw aa (ar call173 aa) (bH (q:=aB) (fun Fr=>cq _ Fr _ _ _)) .free aa aa ?_)))))
      refine ad (c6 aa (aT aa aa (aw aa (ar call190 aa) (iT _ _ _) .free aa aa ?_)))
      refine ad (c6 aa (an aa aa aa (aj aa) .free aa (an aa aa aa (aA aa aa) .free aa (an aa aa aa (aA aa aa) .free aa (aT aa aa (kPs (az (vs:=_) sizeOf102 aa aa aa aa aa) aa (ad (cL (aP aa aa aa (bD aa) .free aa (cF ?_))))))))))
      exact fun a w st_=>⟨b3,st_.to (aC aa) (fun hh=>hh)⟩
    intro b3
    refine bZ (σ':=[(3,ptr b3),(4,.bool (unp (s.load S.scan)).2.2),(2,_),(0,_)]) (aC aa) (ac (ac (aS [1,1,1,1] (aN (fun w hh=>cB hrsv htsv hh) (ab (kPl fX isAgg3 aa aa aa aa (kPm aa aa (ad (aF ?_)))))))))
    refine cy (ι:=Nat×bE×Dev) [61,3,2,0] (fun (i,SI,sI)=>((i:Int)≤(unp (s.load S.scan)).2.1)∧(fc SI)∧(U64 sI)∧(SI.todo=[])∧(SI.done=S.done)∧(SI.bd=S.bd)∧(SI.scan=S.scan)∧(jR (unp (s.load S.scan)).2.1.toNat 0 S s=jR ((unp (s.load S.scan)).2.1.toNat - i) i SI sI)) (fun (i,SI,sI)=>[(62,i64 i)]) (fun (i,SI,sI)=>row b3 [i64 (unp (s.load S.scan)).1,i64 (unp (s.load S.scan)).2.1] 102::eS x SI::aB SI.bd sI::Fr) (fun (i,SI,sI)=>(unp (s.load S.scan)).2.1.toNat - i) (0,S,s) (⟨by first | omega | (simp only;omega),hS,hu,htd,rfl,rfl,rfl,rfl⟩) (fun a w st=>st.to ⟨rfl,trivial⟩ (fun hh=>(hh.pk [1]))) ?_
    rintro⟨i,SI,sI⟩ ⟨hi0,hSI,huI,htdI,hdI,hbdI,hscI0,hinv⟩
    try simp only at hi0 hSI huI htdI hdI hbdI hscI0 hinv ⊢
    refine bZ (σ':=[(62,i64 i),(61,_),(3,_),(2,_),(0,_)]) (aC aa) (ac (ab (kPv (al aa aa aa) aa (ad (ac ?_)))))
    refine aZ aa (fun h63=> ?_) (fun h63=> ?_)
    ·have hi:(i:Int)<(unp (s.load S.scan)).2.1:=by simpa using h63
     have hscI:=hSI.scan
     refine aq (ac (aF (ac (ab (kPm aa aa (kPa aa aa (ad (ac (aS [1] (jG fun rsv2 tsv2 mw2 hrsv2 htsv2=>(cM Tryz.mixed (by kernel_rfl) (by kernel_rfl) ?_)))))))))))
     refine kQm aa aa (kQv (aK aa) aa (kQv (aE (m:=_) gP aa aa) aa (kQv (ai isAgg90 aa aa) aa (kQm aa aa (kQv (aK aa) aa (kQv (aE (m:=_) jb aa aa) aa (kQv (ai isAgg3 aa aa) aa (kQv (aL aa aa) aa (kQm aa aa (kQv (aL aa aa) aa (bF aa (ar call173 aa) (bH (q:=aB) (fun Fr=>cq _ Fr _ _ _)) .free aa ?_)))))))))))
     refine kQa aa aa (ce (am [6,5,62,61,3,2,0] rfl (ac (aN (fun w hh=>cB hrsv2 htsv2 hh) (ab (kPm aa aa (kPv (al aa aa aa) aa (ad ?_))))))))
     refine aZ aa (fun h78=> ?_) (fun h78=> ?_)
     ·have hne:¬ sI.load (SI.scan+1+i)=0:=by simpa using h78
      refine aS [0,1] (aN (fun w hh=>hh) (cI [0,1,2,3,4,5,6,7,8,9,10,11,12,13,14,15] [13,15] [0,1,2,3,4,5,6,7,8,9,10] [13] [CY x SI.bd SI.scan] Tryz.mixed (by kernel_rfl) ?_))
      refine an aa aa aa (aj aa) .free aa (an aa aa aa (aK aa) .free aa (an aa aa aa (aE (m:=_) gP aa aa) .free aa (an aa aa aa (zO fun y=>ai isAgg90 aa aa) .free aa (an aa aa aa (aj aa) .free aa (an aa aa aa (aK aa) .free aa (an aa aa aa (aE (m:=_) jb aa aa) .free aa (an aa aa aa (zO fun y=>ai isAgg3 aa aa) .free aa (an aa aa aa (aL aa aa) .free aa (an aa aa aa (aj aa) .free aa (an aa aa aa (aL aa aa) .free aa (aP aa aa aa (aj aa) .free aa ?_)))))))))))
      refine aP aa aa aa (aj aa) .free aa (aT aa aa ?_)
      refine aU aa (ar call202 aa) (pG B _ x SI hSI sI huI (sI.load (SI.scan+1+i)) (huI.load _)) .free aa aa ?_ ?_
      rotate_left
      ·rintro _ _ ⟨s9,hm9,rfl,rfl⟩
       exact ba fun w hh=>⟨_,⟨s9,by rw[hstep,hinv,show(unp (s.load S.scan)).2.1.toNat - i=((unp (s.load S.scan)).2.1.toNat - (i+1))+1 by omega,ic,if_neg hne,hm9];rfl,rfl,rfl⟩,by rw[←hbdI];exact hh.dp [1]⟩
      rintro _ _ ⟨r2,s2,hm2,rfl,rfl⟩
      obtain⟨hS2,hrv2,hsc2,htd2,hdn2,hb2,hbd2,hc2,hto2,hfr2,hms2⟩:=mm hSI hm2
      have hu2:=(jL huI hm2).1
      refine ad (AZ (fun w hh=>by have h5:=Dp hh;rw[hbd2,hsc2] at h5;exact h5) (aP aa aa aa (cX runUnderlying3 runUnderlying25 aa (dT (by omega))) .free aa (aT aa aa ?_)))
      refine aU aa (ar call145 aa) (cD (fun Fr=>cz _ Fr _ _ _ _)) .free aa aa ?_ ?_
      rotate_left
      ·rintro _ _ ⟨s9,⟨hm9,rfl⟩,rfl⟩
       exact ba fun w hh=>⟨_,⟨s9,by rw[hstep,hinv,show(unp (s.load S.scan)).2.1.toNat - i=((unp (s.load S.scan)).2.1.toNat - (i+1))+1 by omega,ic,if_neg hne,hm2];simp only[aR];rw[hm9];rfl,rfl,rfl⟩,by rw[←hbdI];exact(hh.dp [0,1])⟩
      rintro _ _ ⟨s3,⟨e3,hm3,rfl⟩,rfl⟩
      refine ad (c6 aa (cF (am [62,61,3,2,0] rfl (ab (kPv (aL aa aa) aa (kPm aa aa (ad ?_)))))))
      exact fun a w st_=>⟨(i+1,r2.2,s3),⟨by first | omega | (simp only;omega),hS2,(cu hu2 (by omega) hm3).1,htd2.trans htdI,hdn2.trans hdI,hbd2.trans hbdI,hsc2.trans hscI0,by rw[hinv,show(unp (s.load S.scan)).2.1.toNat - i=((unp (s.load S.scan)).2.1.toNat - (i+1))+1 by omega,ic,if_neg hne,hm2];simp only[aR];rw[hm3];rfl⟩,by first | omega | (simp only;omega),st_.to (aC aa) (fun hh=>(by first | exact(hh.pk [2]) | (simp only[hbd2];exact(hh.pk [2]))))⟩
     ·have hne:sI.load (SI.scan+1+i)=0:=by simpa using h78
      refine aq (ab (kPv (aL aa aa) aa (kPm aa aa (ad ?_))))
      exact fun a w st_=>⟨(i+1,SI,sI),⟨by first | omega | (simp only;omega),hSI,huI,htdI,hdI,hbdI,hscI0,by rw[hinv,show(unp (s.load S.scan)).2.1.toNat - i=((unp (s.load S.scan)).2.1.toNat - (i+1))+1 by omega,ic,if_pos hne];rfl⟩,by first | omega | (simp only;omega),st_.to (aC aa) (fun hh=>(by first | exact(hh.pk [1]) | (simp only[hbd2];exact(hh.pk [1]))))⟩
    ·have hi:¬ (i:Int)<(unp (s.load S.scan)).2.1:=by simpa using h63
     have hscI:=hSI.scan
     refine bz (aS [1] (jG fun rsv3 tsv3 mw3 hrsv3 htsv3=>(cW 9 Tryz.mixed (by kernel_rfl) (by kernel_rfl) ?_)))
     refine kQm aa aa (kQv (aK aa) aa (kQv (aE (m:=_) jb aa aa) aa (kQv (ai isAgg3 aa aa) aa (kQv (ah isAgg102 sizeOf102 aa aa) aa ?_))))
     refine bF aa (ar call139 aa) (eF _ _ _ _ (by omega)) .free aa ?_
     refine kQv (aL aa aa) aa (kQv (aK aa) aa (kQv (aE (m:=_) jb aa aa) aa (ce (kPs (aO sizeOf3 aa aa aa aa) aa (ad (am [2,0] rfl (ac (ab (kPf io isAgg4 aa aa aa aa (kPa aa aa (ad ?_)))))))))))
     refine ay ?_
     exact au results166 aa (fun w hh=>⟨_,⟨_,_,by rw[hstep,hinv,show(unp (s.load S.scan)).2.1.toNat - i=0 by omega];rfl,by rw[hdI,hdone],rfl⟩,by rw[←hbdI];exact cB (S:={SI with scan:=SI.scan+((unp (s.load S.scan)).1+1)}) hrsv3 htsv3 (hh.dp [4])⟩)
   ·have hlt:¬ S.scan<S.free:=by simpa using h37
    refine aN (fun w hh=>cB hrsv htsv hh) (ab (kPm aa aa ?_))
    refine aU aa (ar call203 aa) (Ac B _ x S hS s hu) .free aa aa ?_ ?_
    rotate_left
    ·rintro _ _ ⟨s9,hm9,rfl,rfl⟩
     exact ba fun w hh=>⟨_,⟨s9,by unfold bE.step;rw[if_neg (by rw[hdone];decide)];simp only[htd];rw[if_neg hlt,hm9];rfl,rfl,rfl⟩,hh⟩
    rintro _ _ ⟨r1,s1,hm1,rfl,rfl⟩
    refine jG fun rsv4 tsv4 mw4 hrsv4 htsv4=>(ad (ac (ab (kPf io isAgg4 aa aa aa aa (kPa aa aa (ad (am [2] rfl (ay ?_))))))))
    exact au results166 aa (fun w hh=>⟨_,⟨(true,{S with done:=true}),s1,by unfold bE.step;rw[if_neg (by rw[hdone];decide)];simp only[htd];rw[if_neg hlt,hm1];rfl,rfl,rfl⟩,cB (S:={S with done:=true}) hrsv4 htsv4 hh⟩)
theorem oz:∀ (f:Nat) (S S':bE) (s s':Dev),fc S→U64 s→uB f S s= .ok S' s'→fc S'∧U64 s'∧S'.b=S.b∧S'.bd=S.bd∧S'.c=S.c∧S'.to_=S.to_
 | 0,S,S',s,s',h,hu,e=>by cases e;exact⟨h,hu,rfl,rfl,rfl,rfl⟩
 | f+1,S,S',s,s',h,hu,e=>by
   rw[iX] at e
   obtain⟨r,s1,e1,e⟩:=aH e
   obtain⟨h1,u1,g1,g2,g3,g4,_⟩:=qX h hu e1
   split at e
   ·cases e;exact⟨h1,u1,g1,g2,g3,g4⟩
   ·obtain⟨k1,k2,k3,k4,k5,k6⟩:=oz f _ _ _ _ h1 u1 e
    exact⟨k1,k2,k3.trans g1,k4.trans g2,k5.trans g3,k6.trans g4⟩
theorem pR{α β:Type}{f:α→β}{l:List α}{k:Nat}(hk:k<l.length):(l.take (k+1)).map f=(l.take k).map f++[f l[k]]:=by
 rw[List.take_succ_eq_append_getElem hk,List.map_append];rfl
theorem lT{bd:Nat}{c:Cfg}{b:Blk}{ws:List Int}(hc:bx c)(hb:gg c b)(hl:b.rts.length≤16)(hr:∀ v∈b.rts,0≤v∧v<18446744073709551616)(hw:∀ v∈ws,0≤v∧v<18446744073709551616):fc (eh bd c b ws):=by
 have h1:=hb.act
 have h2:=iE hc (k:=1 - b.act) (by omega)
 have h3:=hc.s1
 have h4:0≤c.frm (1 - b.act)∧c.frm (1 - b.act)≤20000:=by omega
 exact⟨hc,hb,hl,h4,⟨Int.le_refl _,by unfold eh;simp only;omega⟩,⟨Int.le_refl _,by simp[eh]⟩,List.nodup_nil,fun _ h=>(by cases h),fun _ h=>(by cases h),hw,hr⟩
theorem wJ(B:World)(Fr:List HP)(x:Nat)(S:bE)(hS:fc S)(s:Dev)(hu:U64 s):
 ∀ w,Holds B (eS x S::aB S.bd s::Fr) w→Calls Tryz.prog 135 [ptr x].toArray w (Ret B (fun rv H'=>∃ r s',S.run s= .ok r s'∧rv= .tuple #[]∧H'=eS x r::aB S.bd s'::Fr) (fun c H'=>∃ s',S.run s= .off s'∧c=dP∧H'=aB S.bd s'::Fr)):=by
 refine ap func135 aa ntmps135 aa (aF (cy (ι:=Nat×bE×Dev) [0] (fun (n,SI,sI)=>(SI.meas<n)∧(fc SI)∧(U64 sI)∧(SI.bd=S.bd)∧(uB (S.meas+1) S s=uB n SI sI)) (fun (n,SI,sI)=>[]) (fun (n,SI,sI)=>eS x SI::aB SI.bd sI::Fr) (fun (n,SI,sI)=>n) (S.meas+1,S,s) (⟨Nat.lt_succ_self _,hS,hu,rfl,rfl⟩) (fun a w st=>st.to trivial (fun hh=>hh)) ?_))
 rintro⟨n,SI,sI⟩ ⟨hn,hSI,huI,hbdI,hinv⟩
 try simp only at hn hSI huI hbdI hinv ⊢
 refine bZ (σ':=[(0,_)]) ⟨rfl,trivial⟩ (ac (ac (ab (kPm aa aa ?_))))
 refine aU aa (ar call166 aa) (pC B _ x SI hSI sI huI) .free aa aa ?_ ?_
 rotate_left
 ·rintro _ _ ⟨s9,hm9,rfl,rfl⟩
  exact ba fun w hh=>⟨_,⟨s9,by unfold bE.run;rw[hinv,show n=n - 1+1 by omega,iX,hm9];rfl,rfl,rfl⟩,by rw[←hbdI];exact hh⟩
 rintro _ _ ⟨r1,s1,hm1,rfl,rfl⟩
 obtain⟨hS1,hu1,hb1,hbd1,hc1,hto1,hr1,hms1⟩:=qX hSI huI hm1
 refine kPv (bj aa) aa (ad ?_)
 refine aZ aa (fun h4=> ?_) (fun h4=> ?_)
 ·have hg:r1.1=false:=by simpa using h4
  refine aq (aF (aq ?_))
  exact fun a w st_=>⟨(n - 1,r1.2,s1),⟨by have:=hms1 hg;first | omega | (simp only;omega),hS1,hu1,hbd1.trans hbdI,by rw[hinv,show n=n - 1+1 by omega,iX,hm1];simp only[aR];rw[if_neg (by rw[hg];decide)];rfl⟩,by first | omega | (simp only;omega),st_.to ⟨rfl,trivial⟩ (fun hh=>(by simp only[hbd1];exact hh))⟩
 ·have hg:r1.1=true:=by simpa using h4
  refine bz ?_
  exact cP results135 (fun w hh=>⟨_,⟨_,_,by unfold bE.run;rw[hinv,show n=n - 1+1 by omega,iX,hm1];simp only[aR];rw[if_pos hg],rfl,rfl⟩,by rw[←hbdI];exact hh⟩)
theorem mQ(B:World)(Fr:List HP)(x:Nat)(S:bE)(hS:fc S):
 ∀ w,Holds B (eS x S::Fr) w→Calls Tryz.prog 167 [ptr x].toArray w (Ret B (fun rv H'=>∃ sv,aM sv=true∧rv=lC S.block sv∧H'=cS 0 (sv,S.block.rts)::eS x S::Fr) (fun _ _=>False)):=by
 refine ap func167 aa ntmps167 aa ?_
 have hfb:=hS.fb
 have hfr:=hS.free
 have hto:=hS.to_
 have hba:=hS.b.act
 have hrl:=hS.rl
 refine ac (ab (kPb (aD zeroValue151 aa) aa fun b2=>(ad (ac (aS [1] (jG fun rsv tsv mw hrsv htsv=> ?_))))))
 refine kP (.fin [0,1,2,3,4,5,6,7,8,9,10,11,12,13,14,15,16,17]) [16,17] [0,1,2,3,4,5,6,7,8,9,10,11,12,13,14,15] [16] [row x (eR S rsv tsv mw) 247] [2,0] (G:=Nat) (fun b3=>[(3,ptr b3)]) (fun b3=>row b3 [i64 (1 - S.b.act),i64 (S.free - S.to_),.slice none 0 0] 151::row x (eR S rsv tsv mw) 247::cS 0 (rsv,S.b.rts)::cS 0 (tsv,S.todo)::bu .u64 i64 mw S.went::row b2 [i64 0,i64 0,.slice none 0 0] 151::Fr) Tryz.mixed (by kernel_rfl) ?_ ?_
 ·skip
  refine jQ (an aa aa aa (aj aa) .free aa (an aa aa aa (aK aa) .free aa (an aa aa aa (aE (m:=_) l9 aa aa) .free aa (an aa aa aa (aE (m:=_) ir aa aa) .free aa (an aa aa aa (ai isAgg3 aa aa) .free aa (an aa aa aa (fh aa aa) .free aa (an aa aa aa (aj aa) .free aa (an aa aa aa (aK aa) .free aa (an aa aa aa (aE (m:=_) ip aa aa) .free aa (an aa aa aa (ai isAgg3 aa aa) .free aa (an aa aa aa (aj aa) .free aa ?_)))))))))))
  refine an aa aa aa (aK aa) .free aa (an aa aa aa (aE (m:=_) pu aa aa) .free aa (an aa aa aa (ai isAgg3 aa aa) .free aa (an aa aa aa (fh aa aa) .free aa (an aa aa aa (aQ aa (nt _ _ aa aa)) .free aa (aT aa aa (kPb (aD zeroValue151 aa) aa fun b3=>(ad (cL (aT aa aa ?_)))))))))
  refine kPs (az (vs:=_) sizeOf151 aa aa aa (by first | rfl | exact ew (by assumption)) rfl) rfl ?_;refine ad ?_;refine c6 aa ?_;refine cF ?_
  exact fun a w st_=>⟨b3,st_.to (aC aa) (fun hh=>hh)⟩
 intro b3
 refine bZ (σ':=[(3,ptr b3),(2,_),(0,_)]) (aC aa) (ac (ac (aS [2] (cC fun qr cr hqr hqi=> ?_))))
 subst hqr
 refine aS [1,1,0,0,0,0] (aN (fun w hh=>eK (T:=25) (enc:=w64) hh) (ab (kPm aa aa (kPv (aK aa) aa (kPv (aE (m:=_) l9 aa aa) aa (kPl eY isAgg30 aa aa aa aa (kPv (bB aa runUnderlying30 ⟨_,rfl⟩ rfl) aa (kPm aa aa (ad (aF (cy (ι:=Nat×Value) [27,26,3,2,0] (fun (k,bv)=>(k≤S.b.rts.length)∧(aM bv=true)) (fun (k,bv)=>[(28,i64 k)]) (fun (k,bv)=>cS 0 (bv,(S.b.rts.take k).map (fun w=>(bJ S.went w).getD 0))::row b3 [i64 (1 - S.b.act),i64 (S.free - S.to_),bv] 151::row x (eR S (.slice qr S.b.rts.length cr) tsv mw) 247::cS 0 (.slice qr S.b.rts.length cr,S.b.rts)::cS 0 (tsv,S.todo)::bu .u64 i64 mw S.went::row b2 [i64 0,i64 0,.slice none 0 0] 151::Fr) (fun (k,bv)=>S.b.rts.length - k) (0,.slice none 0 0) (⟨Nat.zero_le _,rfl⟩) (fun a w st=>st.to ⟨rfl,trivial⟩ (fun hh=>hh)) ?_)))))))))))
 rintro⟨k,bv⟩ ⟨hk0,hbv⟩
 try simp only at hk0 hbv ⊢
 refine bZ (σ':=[(28,i64 k),(27,_),(26,_),(3,_),(2,_),(0,_)]) (aC aa) (ac (ab (kPv (al aa aa aa) aa (ad (ac ?_)))))
 refine aZ aa (fun h29=> ?_) (fun h29=> ?_)
 ·have hk:k<S.b.rts.length:=by simp at h29;omega
  obtain⟨bq,oq,rfl⟩:=hqi k hk
  have hvb:=hS.vb S.b.rts[k]
  refine aq (ac (aF (ac (ab (kPv (cj runUnderlying30 sizeOf25 aa aa (by omega) (by omega)) aa ?_)))))
  refine kPv (bM (v:=w64 S.b.rts[k]) isAgg25 (cO 3 aa) aa (by rw[Int.toNat_natCast,List.getElem?_map,List.getElem?_eq_getElem hk];rfl)) aa ?_
  refine kPa aa aa (ad (cI [0,1,2,3,4,5,6,7,8,9,10,11,12] [9,10,12] [0,1] [9] [row b3 [i64 (1 - S.b.act),i64 (S.free - S.to_),bv] 151,row x (eR S (.slice (some ⟨bq,oq,none⟩) S.b.rts.length cr) tsv mw) 247,bu .u64 i64 mw S.went] Tryz.mixed (by kernel_rfl) ?_))
  refine an aa aa aa (aE (m:=_) eY aa aa) .free aa (an aa aa aa (ai isAgg30 aa aa) .free aa (aP aa aa aa (aj aa) .free aa (aP aa aa aa (aK aa) .free aa (aP aa aa aa (aE (m:=_) l7 aa aa) .free aa (aP aa aa aa (ai isAgg245 aa aa) .free aa (aP aa aa aa (aj aa) .free aa (aP aa aa aa ((lu runUnderlying245 runUnderlying25 zeroValue3 aa aa).eq (oS _)) .free aa (aP aa aa aa (cX runUnderlying3 runUnderlying25 aa (dT (by omega))) .free aa (aT aa aa (kPb (fZ runUnderlying30 sizeOf25 zeroValue25 aa aa aa) aa fun b41=>(aS [1,0] ?_)))))))))))
  refine ad (cL (aT aa aa (cK aa (ee aa aa runUnderlying30 runUnderlying30 ⟨_,rfl⟩ sizeOf25 zeroValue25 aa (fun _=>rfl) ia aa aa (by simp;omega)) .free aa aa ?_)))
  rintro bv2 _ ⟨hbv2,rfl⟩
  refine ad (c6 aa (aP aa aa aa (aE (m:=_) eY aa aa) .free aa (aT aa aa ?_)))
  refine kPs (aO sizeOf30 aa aa (by first | rfl | assumption) rfl) rfl ?_;refine ad ?_;refine c6 aa ?_;refine cF ?_;refine am [28,27,26,3,2,0] rfl ?_;refine ab ?_;refine kPv (aL aa aa) aa ?_;refine kPm aa aa ?_;refine ad ?_
  exact fun a w st_=>⟨(k+1,bv2),⟨by first | omega | (simp only;omega),hbv2⟩,by first | omega | (simp only;omega),st_.to (aC aa) (fun hh=>(by simp only[pR hk];exact hh))⟩
 ·have hk:¬ k<S.b.rts.length:=by simp at h29;omega
  obtain rfl:k=S.b.rts.length:=by omega
  rw[List.take_length]
  refine bz (ac (ab (kPv (ah isAgg151 sizeOf151 aa aa) aa ?_)))
  refine kPs (az (vs:=_) sizeOf151 aa aa aa (by first | rfl | exact ew (by assumption)) rfl) rfl ?_;refine ad ?_;refine am [2] rfl ?_;refine ay ?_
  exact p9 results167 (.cellA aa isAgg151 sizeOf151 aa aa) (fun w hh=>⟨_,⟨bv,hbv,rfl,rfl⟩,(cB (S:=S) hrsv htsv ((hh.dp [1,5]).pk [1,1,1,1])).pk [1]⟩)
theorem tY(B:World)(Fr:List HP)(cap:Nat):
 ∀ w,Holds B Fr w→Calls Tryz.prog 178 [.slice none 0 cap].toArray w (a8 B Fr (.slice none 0 0)):=by
 refine ap func178 aa ntmps178 aa (ac (ab (kPa aa aa (ad (ac (ac (ab (kPm aa aa (kPv (wE runUnderlying30 aa aa aa) aa (ad (tB aa (rfl) ?_)))))))))))
 refine ac (ab (kPa aa aa (ad (ay ?_))))
 exact au results178 aa (fun w hh=>⟨rfl,hh⟩)
theorem np(B:World)(Fr:List HP)(q:Option Addr)(cap:Nat)(xs:List Int)(hn:xs.length≤1000000)(hq:q=none→xs=[])(hr:SlR B Fr (.slice q xs.length cap) (xs.map w64)):∀ w,Holds B Fr w→Calls Tryz.prog 178 [.slice q xs.length cap].toArray w (Ret B (fun rv H'=>aM rv=true∧H'=cS 0 (rv,xs)::Fr) (fun _ _=>False)):=by
 intro w hw
 cases q with
 | none=>
   have:=hq rfl
   subst this
   exact(tY B Fr cap w hw).mono fun e w' h=>by obtain⟨rfl,h⟩:=h;exact⟨_,⟨rfl,rfl⟩,eK h⟩
 | some a=>
   refine(lA B Fr (some a) xs.length cap (xs.map w64) (by simp) (by simpa using hn) (by rw[List.all_eq_true];intro v hv;obtain⟨x,_,rfl⟩:=List.mem_map.1 hv;rfl) hr w hw).mono fun e w' h=> ?_
   cases e with
   | returned v=>
     obtain⟨H',⟨bn,rest,rfl,rfl⟩,h⟩:=h
     exact⟨_,⟨rfl,rfl⟩,gZ aa aa h⟩
   | panicked c=>obtain⟨_,h,_⟩:=h;exact h.elim
   | outgrown=>exact h.elim
theorem rP(B:World)(Fr:List HP)(bd:Nat)(c:Cfg)(hc:bx c)(b:Blk)(hb:gg c b)(sv:Value)(hsv:aM sv=true)(q:Option Addr)(cap:Nat)(ws:List Int)(hwn:ws.length≤1000000)(hwq:q=none→ws=[])(hwl:SlR B (cS 0 (sv,b.rts)::Fr) (.slice q ws.length cap) (ws.map w64)):
 ∀ w,Holds B (cS 0 (sv,b.rts)::Fr) w→Calls Tryz.prog 133 [ptr bd,dS c,lC b sv,.slice q ws.length cap].toArray w (Ret B (fun rv H'=>∃ x,rv=ptr x∧H'=eS x (eh bd c b ws)::Fr) (fun _ _=>False)):=by
 refine ap func133 aa ntmps133 aa ?_
 have hba:=hb.act
 refine ac (ab (kPb (aY aa) aa fun b5=>(kPb (aY aa) aa fun b6=>(kPa aa aa (ad (ac (ab (kPv (ah isAgg134 sizeOf134 aa aa) aa ?_))))))))
 refine kPl ir isAgg3 aa aa aa aa (kPv (fh aa aa) aa (aw aa (ar call119 aa) (jH _ _ c hc _ (by have:=hb.act;omega) (by have:=hb.act;omega)) .free aa aa ?_))
 refine kPa aa aa (ad (am [9,8,6,5,0,3] rfl (ac (aS [1] ?_))))
 refine kP (.br [0,1,2,3,4,5,6] 7 (.fin [8,9,10,11]) 8 (.fin [7,9,10,11])) [7,8,10] [0,1,2,3,4,5,6] [7,8] [row b5 [i64 c.log,i64 c.roots,i64 c.space] 134,row b6 [i64 b.act,i64 b.used,sv] 151] [] (G:=Nat) (fun x=>[(8,ptr x)]) (fun x=>eS x (eh bd c b ws)::Fr) Tryz.mixed (by kernel_rfl) ?_ ?_
 ·skip
  refine wV (an aa aa aa (aj aa) .free aa (an aa aa aa (ah isAgg134 sizeOf134 aa aa) .free aa ?_))
  refine an aa aa aa (ah isAgg151 sizeOf151 aa aa) .free aa ?_
  refine an aa aa aa (aj aa) .free aa (an aa aa aa (aj aa) .free aa (an aa aa aa (aj aa) .free aa (an aa aa aa (aj aa) .free aa (cF ?_))))
  refine p5 aa aa ?_ ?_
  ·skip
   refine aJ aa (ar call178 aa) (np _ _ q cap ws hwn hwq hwl.up) .free aa aa ?_
   rintro tsv _ ⟨htsv,rfl⟩
   refine ad (un (jQ (aT aa aa (kPb (dR .u64 i64) aa fun mw=>(ad (cL ?_))))))
   refine aP aa aa aa (aQ aa (fJ _ _ _ _ _ _ _ _ _ _ _ _ (by first | rfl | assumption) rfl rfl rfl (by first | rfl | assumption) (by first | rfl | assumption))) .free rfl ?_;refine aT aa aa ?_;refine kPb (aY aa) aa fun b25=> ?_;refine ad ?_;refine c6 aa ?_
   refine aP aa aa aa (bD aa) .free aa (cF ?_)
   exact fun a w st_=>⟨b25,st_.to ⟨rfl,trivial⟩ (fun hh=>(cB (S:=eh bd c b ws) hsv htsv ((hh.dp [3,3]).pk [0,2,1])))⟩
  ·skip
   refine kPb (dR .u64 i64) aa fun mw=>(ad (un (jQ (aT aa aa (aJ aa (ar call178 aa) (np _ _ q cap ws hwn hwq hwl.up) .free aa aa ?_)))))
   rintro tsv _ ⟨htsv,rfl⟩
   refine ad (cL ?_)
   refine aP aa aa aa (aQ aa (fJ _ _ _ _ _ _ _ _ _ _ _ _ (by first | rfl | assumption) rfl rfl rfl (by first | rfl | assumption) (by first | rfl | assumption))) .free rfl ?_;refine aT aa aa ?_;refine kPb (aY aa) aa fun b25=> ?_;refine ad ?_;refine c6 aa ?_;refine aP aa aa aa (bD aa) .free aa ?_;refine cF ?_
   exact fun a w st_=>⟨b25,st_.to ⟨rfl,trivial⟩ (fun hh=>(cB (S:=eh bd c b ws) hsv htsv ((hh.dp [3,3]).pk [0,2])))⟩
 intro x
 refine bZ (σ':=[(8,ptr x)]) ⟨rfl,trivial⟩ (ay ?_)
 exact au results133 aa (fun w hh=>⟨_,⟨_,rfl,rfl⟩,hh⟩)
def u5:List Value:=zp.flatMap fun p=>[str p.1,i64 p.2]
theorem mK:∀ k,k<18→(u5.drop (k*2)).take 2=[str (fw k),i64 (fm k)]:=by
 intro k hk
 obtain rfl | rfl | rfl | rfl | rfl | rfl | rfl | rfl | rfl | rfl | rfl | rfl | rfl | rfl | rfl | rfl | rfl | rfl:k=0∨k=1∨k=2∨k=3∨k=4∨k=5∨k=6∨k=7∨k=8∨k=9∨k=10∨k=11∨k=12∨k=13∨k=14∨k=15∨k=16∨k=17:=by omega
 all_goals rfl
def FG(B:World):Prop:=rY B (some ⟨1,0,none⟩) 1 36 (fun _=>u5)
section
variable {B:World} {σ:Env} {H:List HP} {P:Program} {d:Option Tmp} {ty:TypeId} {p:String} {af:Array Edge} {g:Option (Nat×Bool)}
theorem Bk{t e m len:Nat}{x y:Operand}{k:IntKind}{i:Int}{cs c:List Value}(ht:∀ w,(underlying t).run P w= .ok (.array len e) w)(ha:∀ w,(isAgg e).run P w= .ok true w)(hs:∀ w,(sizeOf e).run P w= .ok m w)(hx:evO σ x=some (.agg cs.toArray))(hy:evO σ y=some (.int k i))(h0:0≤i∧i<len)(hc:(cs.drop (i.toNat*m)).take m=c):
 Evs P B σ H ⟨d,.index t x y,ty,p,af,g⟩ (.agg c.toArray):=by
 subst hc
 intro a w kn _
 simp only[execOp,kn.eval hx,kn.eval hy]
 simp[Instr.index,asIntOf,ht,h0.1,h0.2,part,ha,hs,List.extract_eq_take_drop]
theorem zN{t b m:Nat}{x:Operand}{cs:List Value}(ht:∀ w,(isAgg t).run P w= .ok true w)(hs:∀ w,(sizeOf t).run P w= .ok m w)[cV H B](hr:rY B (some ⟨b,0,none⟩) 1 m (fun _=>cs))(hx:evO σ x=some (.pointer (some ⟨b,0,none⟩))):
 Evs P B σ H ⟨d,.load t x,ty,p,af,g⟩ (.agg cs.toArray):=
 ix (i:=0) (k:=1) (cap:=1) ht hs (SlN.arg hr) (by rw[hx,Nat.zero_mul]) rfl
def isE:Value→Bool
 | .nilIface=>false
 | _=>true
theorem wC{x:Operand}{t u:TypeId}{ms:Array (String×TypeId)}{v:Value}(ht:∀ w,(underlying t).run P w= .ok (.interface ms) w)(hx:evO σ x=some v)(hv:v= .nilIface∨∃ u x,v= .iface u x):
 Evs P B σ H ⟨d,.binOp .neq t x (.const .nilIface) u,ty,p,af,g⟩ (.bool (isE v)):=(mf ht hx hv).eq (by rcases hv with rfl | ⟨_,_,rfl⟩<;>rfl)
theorem zJ{t e b off n cap:Nat}{x lo:Operand}{kk:IntKind}(ht:∀ w,(underlying t).run P w= .ok (.slice e) w)(hs:∀ w,(sizeOf e).run P w= .ok 1 w)(hx:evO σ x=some (.slice (some ⟨b,off,none⟩) n cap))(hl:evO σ lo=some (.int kk 1))(h1:1≤n)(h2:n≤cap):
 Evs P B σ H ⟨d,.slice t x (some lo) none none,ty,p,af,g⟩ (.slice (some ⟨b,if cap=1 then off else off+1,none⟩) (n - 1) (cap - 1)):=by
 by_cases hc:cap=1
 ·subst hc
  obtain rfl:n=1:=by omega
  rw[if_pos rfl]
  exact jJ ht hs hx hl
 ·rw[if_neg hc]
  exact ku ht hs hx (.yesi hl aa) .no h1 h2 (.inl (by omega)) (by rw[Nat.one_mul])
theorem j1{q:Option Addr}{T cap:Nat}{l:List (List UInt8)}(i:Nat)(e:H[i]? =some (gm T (.slice q l.length cap) l)):SlR B H (.slice q l.length cap) (l.map str):=by
 have h:=ye (B:=B) uo i e
 rw[l0] at h
 refine⟨q,cap,by simp,fun w hw j hj=> ?_⟩
 rcases eG (hw.front i e) with ⟨h1,_,_⟩ | ⟨bd,pre,rest,k,_,h1,h2⟩
 ·rw[h1] at hj;exact absurd hj (Nat.not_lt_zero _)
 ·injection h1 with h1 _ _
  refine⟨bd,pre.length,h1,?_⟩
  have h3:=h2.cell 0 rfl (pre.length+j)
  rw[h3,l0,List.append_assoc,List.getElem?_append_right (by omega),Nat.add_sub_cancel_left,List.getElem?_append_left hj]
theorem nG{n:Nat}{D:List Deferred}{K:Act→World→Prop}{T:Nat}{sv:Value}{l:List (List UInt8)}(h:∀ q cap,sv= .slice q l.length cap→l.length≤cap→(0<l.length→∃ b off,q=some ⟨b,off,none⟩)→GO B n D σ (gm T sv l::H) K):GO B n D σ (gm T sv l::H) K:=fun a w st=>by
 rcases eG st.holds with ⟨e1,e2,_⟩ | ⟨bd,pre,rest,k,_,e,_⟩
 ·exact h none 0 (by rw[e2,e1];rfl) (by rw[e1];exact Nat.le_refl _) (fun hi=>by rw[e1] at hi;exact absurd hi (Nat.not_lt_zero _)) a w st
 ·exact h _ _ e (by omega) (fun hi=>⟨_,_,rfl⟩) a w st
end
theorem oP(s:List UInt8)(t:List (List UInt8)):fC (s::t)=match num s with
 | none=>none
 | some n=>(fC t).map fun l=>(n:Int)::l:=rfl
theorem mB{ns:List Int}{s:List UInt8}{t:List (List UInt8)}(h:num s=none):(fC (s::t)).map (ns++ ·)=none:=by rw[oP,h];rfl
theorem sR{ns:List Int}{s:List UInt8}{t:List (List UInt8)}{u:Nat}(h:num s=some u):(fC (s::t)).map (ns++ ·)=(fC t).map ((ns++[(u:Int)])++ ·):=by
 rw[oP,h]
 simp only[Option.map_map]
 congr 1
 funext l
 simp
theorem qk{ws:List (List UInt8)}(h:gz (ws.getD 0 [])=none):cH ws=((0,[]),12):=by unfold cH;rw[h]
theorem qm{ws:List (List UInt8)}{k:Nat}(h:gz (ws.getD 0 [])=some (k,fm k))(hl:ws.length≠fm k+1):cH ws=((0,[]),13):=by unfold cH;rw[h];simp only[if_pos hl]
theorem o6{ws:List (List UInt8)}{k:Nat}(h:gz (ws.getD 0 [])=some (k,fm k))(hl:ws.length=fm k+1)(hn:fC (ws.drop 1)=none):cH ws=((0,[]),13):=by
 unfold cH;rw[h];simp only[ne_eq,not_true,if_false,hl,hn]
theorem rp{ws:List (List UInt8)}{k:Nat}{ns:List Int}(h:gz (ws.getD 0 [])=some (k,fm k))(hl:ws.length=fm k+1)(hn:fC (ws.drop 1)=some ns):cH ws=((((k:Nat):Int),ns),0):=by
 unfold cH;rw[h];simp only[ne_eq,not_true,if_false,hl,hn]
theorem iU{ws:List (List UInt8)}{i:Nat}(h:i<ws.length):(ws.map str)[i]? =some (str (ws.getD i [])):=by
 simp[h,List.getD]
theorem jg{ws:List (List UInt8)}{i:Nat}(h:i<ws.length):ws.drop i=ws.getD i []::ws.drop (i+1):=by
 rw[List.drop_eq_getElem_cons h];simp[h,List.getD]
theorem y3(B:World)(Fr:List HP)[cV Fr B](gl:GL B)(fg:FG B)(ws:List (List UInt8))(h0:0<ws.length)(hwn:ws.length≤1000000)(hwl:∀ i,(ws.getD i []).length≤1000000)(b off cap:Nat)(hcap:ws.length≤cap)(hr:SlR B Fr (.slice (some ⟨b,off,none⟩) ws.length cap) (ws.map str)):
 ∀ w,Holds B Fr w→Calls Tryz.prog 28 [.slice (some ⟨b,off,none⟩) ws.length cap].toArray w (Ret B (fun v H'=>∃ sv,aM sv=true∧v= .tuple #[.agg #[i64 (cH ws).1.1,sv],i64 (cH ws).2]∧H'=cS 0 (sv,(cH ws).1.2)::Fr) (fun _ _=>False)):=by
 refine ap func28 aa ntmps28 aa (ac (ab (kPb (aD zeroValue32 aa) aa fun b2=>(kPa aa aa (ad (ac (ac (ab (kPv (zN isAgg62 sizeOf62 fg aa) aa (kPm aa aa (ad ?_)))))))))))
 refine aF (cy (ι:=Nat) [11,3,2,0] (fun k=>(k≤18)∧(gz (ws.getD 0 [])=fU (ws.getD 0 []) (18 - k) k)) (fun k=>[(12,i64 k)]) (fun k=>row b2 [i64 0,.slice none 0 0] 32::Fr) (fun k=>18 - k) (0) (⟨Nat.zero_le _,rfl⟩) (fun a w st=>st.to ⟨rfl,trivial⟩ (fun hh=>hh)) ?_)
 rintro k ⟨hk0,hko⟩
 try simp only at hk0 hko ⊢
 refine bZ (σ':=[(12,i64 k),(11,_),(3,_),(2,_),(0,_)]) (aC aa) (ac (ab (kPv (al aa aa aa) aa (ad (ac ?_)))))
 refine aZ aa (fun h13=> ?_) (fun h13=> ?_)
 ·have hk:k<18:=by simp at h13;omega
  have hfm:=zs k hk
  refine aq (ac (aF (ac (ab (kPm aa aa (kPv (Bk (c:=[str (fw k),i64 (fm k)]) runUnderlying62 isAgg61 sizeOf61 aa aa (by omega) (by rw[Int.toNat_natCast];exact mK k hk)) aa (kPb (aD zeroValue61 aa) aa fun b5=>(kPa aa aa ?_))))))))
  refine kPs (az (vs:=_) sizeOf61 aa aa aa (by first | rfl | exact ew (by assumption)) rfl) rfl ?_;refine ad ?_;refine ac ?_;refine ac ?_;refine cM Tryz.mixed (by kernel_rfl) (by kernel_rfl) ?_;refine kQm aa aa ?_;refine kQv (cj runUnderlying50 sizeOf9 aa aa (by omega) (by omega)) aa ?_
  refine kQv (bM (v:=str (ws.getD 0 [])) isAgg9 hr.up aa (iU h0)) aa (kQv (aE (m:=_) wA aa aa) aa (kQv (ai isAgg9 aa aa) aa (kQv (mO aa aa aa) aa (ce (am [21,4,5,12,11,3,2,0] rfl ?_)))))
  refine aZ aa (fun h21=> ?_) (fun h21=> ?_)
  ·have hne:¬ fw k=ws.getD 0 []:=fun e=>by simp[e] at h21
   refine bz (ab (kPv (aL aa aa) aa (kPm aa aa (ad ?_))))
   exact fun a w st_=>⟨k+1,⟨by first | omega | (simp only;omega),by rw[hko,show 18 - k=18 - (k+1)+1 by omega,fU,if_neg hne]⟩,by first | omega | (simp only;omega),st_.to (aC aa) (fun hh=>(hh.dp [0]))⟩
  ·have heq:fw k=ws.getD 0 []:=by
    have h9:ws.getD 0 []=fw k:=by simpa using h21
    exact h9.symm
   have hkind:gz (ws.getD 0 [])=some (k,fm k):=by rw[hko,show 18 - k=17 - k+1 by omega,fU,if_pos heq]
   refine aq (ac (ac (ab (kPm aa aa (kPv (bB aa runUnderlying50 ⟨_,rfl⟩ rfl) aa (kPl Bh isAgg3 aa aa aa aa (kPv (aL aa aa) aa (kPv (al aa aa aa) aa (ad (am [27,4,12,11,3,2,0] rfl ?_))))))))))
   refine aZ aa (fun h27=> ?_) (fun h27=> ?_)
   ·have hln:ws.length≠fm k+1:=by simp at h27;omega
    have hres:cH ws=((0,[]),13):=qm hkind hln
    refine ac (ab (kPv (aQ aa (rS)) aa ?_))
    refine kPs (az (vs:=_) sizeOf32 aa aa aa (by first | rfl | exact ew (by assumption)) rfl) rfl ?_;refine kPa aa aa ?_;refine ad ?_;refine ay ?_
    exact gi results28 (.cellA aa isAgg32 sizeOf32 aa aa) (.tmp aa) (fun w hh=>⟨_,⟨.slice none 0 0,rfl,by rw[hres];rfl,rfl⟩,by rw[hres];exact eK ((hh.dp [0,0]))⟩)
   ·have hln:ws.length=fm k+1:=by simp at h27;omega
    refine aq (ac (ab (kPm aa aa (kPv (aQ aa (t8 _ aa)) aa (kPb (aD zeroValue32 aa) aa fun b6=> ?_)))))
    refine kPs (az (vs:=_) sizeOf32 aa aa aa (by first | rfl | exact ew (by assumption)) rfl) rfl ?_;refine ad ?_;refine ac ?_;refine ac ?_;refine aN (fun w hh=>eK (T:=25) (enc:=w64) hh) ?_;refine ab ?_;refine kPm aa aa ?_
    refine kPv (zJ runUnderlying50 sizeOf9 aa aa h0 hcap) aa (kPv (bB aa runUnderlying50 ⟨_,rfl⟩ rfl) aa (kPm aa aa (ad (aF (cy (ι:=Nat×List Int×Value) [33,32,6,12,11,3,2,0] (fun (i,ns,nv)=>(i≤ws.length - 1)∧(fC (ws.drop 1)=(fC (ws.drop (i+1))).map (ns++ ·))∧(ns.length=i)∧(aM nv=true)) (fun (i,ns,nv)=>[(34,i64 i)]) (fun (i,ns,nv)=>cS 0 (nv,ns)::row b6 [i64 k,nv] 32::row b5 [str (fw k),i64 (fm k)] 61::row b2 [i64 0,.slice none 0 0] 32::Fr) (fun (i,ns,nv)=>ws.length - i) (0,[],.slice none 0 0) (⟨Nat.zero_le _,by simp,rfl,rfl⟩) (fun a w st=>st.to ⟨rfl,trivial⟩ (fun hh=>hh)) ?_)))))
    rintro⟨i,ns,nv⟩ ⟨hi0,hns,hnl,hnv⟩
    try simp only at hi0 hns hnl hnv ⊢
    refine bZ (σ':=[(34,i64 i),(33,_),(32,_),(6,_),(12,_),(11,_),(3,_),(2,_),(0,_)]) (aC aa) (ac (ab (kPv (al aa aa aa) aa (ad (ac ?_)))))
    refine aZ aa (fun h35=> ?_) (fun h35=> ?_)
    ·have hi:i<ws.length - 1:=by simp at h35;omega
     refine aq (ac (aF (ac (ab (kPv ((cj runUnderlying50 sizeOf9 aa aa (by omega) (by omega)).eq (show _=Value.pointer (some ⟨b,off+(i+1),none⟩) by rw[if_neg (by omega),Int.toNat_natCast,Nat.add_assoc,Nat.add_comm 1])) aa (kPv (bM (v:=str (ws.getD (i+1) [])) isAgg9 hr.up aa (iU (by omega))) aa (kPa aa aa (ad (ac (ab (kPm aa aa ?_)))))))))))
     refine aJ aa (ar call55 aa) (yM gl (ws.getD (i+1) []) (hwl _)) .free aa aa ?_
     rintro _ _ ⟨rfl,n9,e9,rfl,hor⟩
     have hev:e9= .nilIface∨∃ u x,e9= .iface u x:=by
      rcases hor with ⟨u,_,_,h⟩ | ⟨_,t,x,h⟩
      ·exact .inl h
      ·exact .inr ⟨_,_,h⟩
     refine kPm aa aa (kPv (aA aa aa) aa (kPv (aA aa aa) aa (kPa aa aa (kPa aa aa (ad (am [10,9,8,34,33,32,6,12,11,3,2,0] rfl (ac (ac ?_))))))))
     rcases Bool.eq_false_or_eq_true ((isE e9)) with hs12 | hs12
     ·skip
      have hnum:num (ws.getD (i+1) [])=none:=by
       rcases hor with ⟨u,_,_,h⟩ | ⟨h,_⟩
       ·rw[h] at hs12;cases hs12
       ·exact AK h
      have hres:cH ws=((0,[]),13):=o6 hkind hln (by rw[hns,jg (by omega)];exact mB hnum)
      refine ab (kPm aa aa (kPv (wC runUnderlying76 aa hev) aa (kPm aa aa (ao aa (.on aa aa (ag hs12)) aa (ao aa (.on aa aa (ag hs12)) aa (ao aa (.on aa aa (ag hs12)) aa (ao aa (.on aa aa (ag hs12)) aa (kPv (ax aa hs12 aa) aa (ad (am [50,9,34,33,32,6,12,11,3,2,0] rfl (tB aa (rfl) ?_)))))))))))
      refine ac (ab (kPv (aQ aa (rS)) aa ?_))
      refine kPs (az (vs:=_) sizeOf32 aa aa aa (by first | rfl | exact ew (by assumption)) rfl) rfl ?_;refine kPa aa aa ?_;refine ad ?_;refine ay ?_
      exact gi results28 (.cellA aa isAgg32 sizeOf32 aa aa) (.tmp aa) (fun w hh=>⟨_,⟨.slice none 0 0,rfl,by rw[hres];rfl,rfl⟩,by rw[hres];exact eK ((hh.dp [0,0,0,0]))⟩)
     ·skip
      obtain⟨u,hpu,rfl,rfl⟩:∃ u:Nat,Lib.parseUintB 64 (ws.getD (i+1) [])= .ok u∧n9=u∧e9= .nilIface:=by
       rcases hor with h | ⟨_,t,x,h⟩
       ·exact h
       ·rw[h] at hs12;cases hs12
      clear hor
      refine ab (kPm aa aa (kPv (wC runUnderlying76 aa hev) aa (kPm aa aa (ak aa (aj aa) (.on aa aa (ae hs12)) aa aa (aw aa (ar call21 aa) (tC _ _ gl u (sM hpu)) (.on aa aa (ae hs12)) aa aa ?_)))))
      refine ak aa (aj aa) (.on aa aa (ae hs12)) aa aa (ak aa (mO aa aa aa) (.on aa aa (ae hs12)) aa aa (kPv (aG aa hs12 aa) aa (ad (am [50,9,34,33,32,6,12,11,3,2,0] rfl ?_))))
      refine aZ aa (fun h50=> ?_) (fun h50=> ?_)
      ·have hnum:num (ws.getD (i+1) [])=none:=by rw[yT hpu,if_neg (by simpa using h50)]
       have hres:cH ws=((0,[]),13):=o6 hkind hln (by rw[hns,jg (by omega)];exact mB hnum)
       refine ac (ab (kPv (aQ aa (rS)) aa ?_))
       refine kPs (az (vs:=_) sizeOf32 aa aa aa (by first | rfl | exact ew (by assumption)) rfl) rfl ?_;refine kPa aa aa ?_;refine ad ?_;refine ay ?_
       exact gi results28 (.cellA aa isAgg32 sizeOf32 aa aa) (.tmp aa) (fun w hh=>⟨_,⟨.slice none 0 0,rfl,by rw[hres];rfl,rfl⟩,by rw[hres];exact eK ((hh.dp [0,0,0,0]))⟩)
      ·have hnum:num (ws.getD (i+1) [])=some u:=by rw[yT hpu,if_pos (by simpa using h50)]
       refine aq (ab (kPl iF isAgg30 aa aa aa aa (kPm aa aa (kPb (fZ runUnderlying30 sizeOf25 zeroValue25 aa aa aa) aa fun b55=>(aS [1,0] (cK aa (ee aa aa runUnderlying30 runUnderlying30 ⟨_,rfl⟩ sizeOf25 zeroValue25 aa (fun _=>rfl) ia aa aa (by omega)) .free aa aa ?_))))))
       rintro nv9 _ ⟨hnv9,rfl⟩
       refine kPv (aE (m:=_) iF aa aa) aa ?_
       refine kPs (aO sizeOf30 aa aa (by first | rfl | assumption) rfl) rfl ?_;refine ad ?_;refine am [34,33,32,6,12,11,3,2,0] rfl ?_;refine ab ?_;refine kPv (aL aa aa) aa ?_;refine kPm aa aa ?_;refine ad ?_
       exact fun a w st_=>⟨(i+1,ns++[(u:Int)],nv9),⟨by first | omega | (simp only;omega),by rw[hns,jg (by omega),sR hnum],by simp[hnl],hnv9⟩,by first | omega | (simp only;omega),st_.to (aC aa) (fun hh=>hh)⟩
    ·have hi:i=ws.length - 1:=by simp at h35;omega
     have hres:cH ws=((((k:Nat):Int),ns),0):=rp hkind hln (by rw[hns,List.drop_eq_nil_of_le (by omega)];simp[fC])
     refine bz (ac (ab (kPv (ah isAgg32 sizeOf32 aa aa) aa ?_)))
     refine kPs (az (vs:=[i64 k,nv]) sizeOf32 aa aa aa (show([i64 k,nv]:List Value).all aM=true by simp only[List.all_cons,List.all_nil,hnv];rfl) aa) aa (kPa aa aa (ad (ay ?_)))
     exact gi results28 (.cellA aa isAgg32 sizeOf32 aa aa) (.tmp aa) (fun w hh=>⟨_,⟨nv,hnv,by rw[hres];rfl,by rw[hres]⟩,(hh.dp [1,1,1])⟩)
 ·have hk:k=18:=by simp at h13;omega
  subst hk
  have hres:cH ws=((0,[]),12):=qk hko
  refine bz (ac (ab (kPv (aQ aa (rS)) aa ?_)))
  refine kPs (az (vs:=_) sizeOf32 aa aa aa (by first | rfl | exact ew (by assumption)) rfl) rfl ?_;refine kPa aa aa ?_;refine ad ?_;refine ay ?_
  exact gi results28 (.cellA aa isAgg32 sizeOf32 aa aa) (.tmp aa) (fun w hh=>⟨_,⟨.slice none 0 0,rfl,by rw[hres];rfl,rfl⟩,by rw[hres];exact eK ((hh.dp [0]))⟩)
structure CmR(B:World)(H:List HP)(q:Option Addr)(cap:Nat)(rs:List CR):Prop where
 sl:SlN B H (.slice q rs.length cap) 2 (rs.map crE)
 nm:∀ t∈rs,SlR B H (slv t.2.1) (t.2.2.map w64)∧t.2.1.2.1=t.2.2.length∧t.2.2.length≤1000000
theorem CmR.up{B:World}{H Fr:List HP}{q:Option Addr}{cap:Nat}{rs:List CR}[gJ H Fr](h:CmR B Fr q cap rs):CmR B H q cap rs:=
 ⟨h.sl.up,fun t ht=>⟨(h.nm t ht).1.up,(h.nm t ht).2⟩⟩
theorem vF{B:World}{H:List HP}{q:Option Addr}{n cap:Nat}{cs:List Value}(h:SlR B H (.slice q n cap) cs){w:World}(hw:Holds B H w):∀ i,i<cs.length→∃ b off,q=some ⟨b,off,none⟩:=fun i hi=>by
 obtain⟨q',c',e1,e2⟩:=h.ex
 injection e1 with e3 _ _
 subst e3
 obtain⟨b,off,e,_⟩:=e2 w hw i hi
 exact⟨b,off,e⟩
theorem CJ{t u:CR}:((t.1==u.1)&&decide (t.2.2=u.2.2))=decide (crC t=crC u):=by
 rw[Bool.eq_iff_iff]
 simp[crC,Prod.ext_iff]
abbrev crV(t:CR):Value:= .agg #[i64 t.1,slv t.2.1]
theorem Dm{B:World}{H Fr:List HP}[gJ H Fr]{t u:CR}(hx:SlR B Fr (slv t.2.1) (t.2.2.map w64)∧t.2.1.2.1=t.2.2.length∧t.2.2.length≤1000000)(hy:SlR B Fr (slv u.2.1) (u.2.2.map w64)∧u.2.1.2.1=u.2.2.length∧u.2.2.length≤1000000):
 ∀ w,Holds B H w→Calls Tryz.prog 25 [slv t.2.1,slv u.2.1].toArray w (a8 B H (.bool (decide (t.2.2=u.2.2)))):=fun w hw=>by
 obtain⟨h1,h2,h3⟩:=hx
 obtain⟨g1,g2,g3⟩:=hy
 obtain⟨k1,⟨q1,n1,c1⟩,xs⟩:=t
 obtain⟨k2,⟨q2,n2,c2⟩,ys⟩:=u
 simp only at h2 g2
 subst h2;subst g2
 have h4:SlR B H (.slice q1 xs.length c1) (xs.map w64):=h1.up
 have g4:SlR B H (.slice q2 ys.length c2) (ys.map w64):=g1.up
 exact tM B H q1 q2 c1 c2 xs ys h3 g3 (fun i hi=>vF h4 hw i (by simpa using hi)) (fun i hi=>vF g4 hw i (by simpa using hi)) h4 g4 w hw
theorem yF(B:World)(Fr:List HP)(t u:CR)(hx:SlR B Fr (slv t.2.1) (t.2.2.map w64)∧t.2.1.2.1=t.2.2.length∧t.2.2.length≤1000000)(hy:SlR B Fr (slv u.2.1) (u.2.2.map w64)∧u.2.1.2.1=u.2.2.length∧u.2.2.length≤1000000):
 ∀ w,Holds B Fr w→Calls Tryz.prog 30 [crV t,crV u].toArray w (a8 B Fr (.bool (decide (crC t=crC u)))):=by
 refine ap func30 aa ntmps30 aa (ac (ab (kPb (aY aa) aa fun b2=>(kPb (aY aa) aa fun b3=>(kPa aa aa (ad (ac (ab (kPl iG isAgg29 aa aa aa aa (kPl iG isAgg29 aa aa aa aa (kPv (al aa aa aa) aa ?_)))))))))))
 refine kPm aa aa ?_
 apply dD (tp:=16) (t:=10) (σ1:=[(10,_),(4,_)]) 6 rfl ⟨rfl,rfl,trivial⟩
 ·intro hg1
  refine ak aa (aE (m:=_) iF aa aa) (.on aa aa (ae hg1)) aa aa (ak aa (ai isAgg30 aa aa) (.on aa aa (ae hg1)) aa aa (ak aa (aE (m:=_) iF aa aa) (.on aa aa (ae hg1)) aa aa (ak aa (ai isAgg30 aa aa) (.on aa aa (ae hg1)) aa aa (aw aa (ar call25 aa) (Dm hx hy) (.on aa aa (ae hg1)) aa aa ?_))))
  refine kPv (ax aa hg1 aa) aa ?_
  exact aV aa ⟨rfl,rfl,trivial⟩ (cQ hg1)
 ·intro hg1
  refine ao aa (.on aa aa (ag hg1)) aa (ao aa (.on aa aa (ag hg1)) aa (ao aa (.on aa aa (ag hg1)) aa (ao aa (.on aa aa (ag hg1)) aa (ao aa (.on aa aa (ag hg1)) aa (kPv (aG aa hg1 aa) aa ?_)))))
  exact aV aa ⟨rfl,rfl,trivial⟩ (cR hg1)
 refine kPa aa aa (ad (ay ?_))
 exact au results30 aa (fun w hw=>⟨by rw[CJ],(hw.dp [0,0])⟩)
theorem CE(B:World)(Fr:List HP)(q1 q2:Option Addr)(c1 c2:Nat)(r1 r2:List CR)(hn1:r1.length≤1000000)(hn2:r2.length≤1000000)(h1:CmR B Fr q1 c1 r1)(h2:CmR B Fr q2 c2 r2):
 ∀ w,Holds B Fr w→Calls Tryz.prog 29 [.slice q1 r1.length c1,.slice q2 r2.length c2,.func (.func 30) #[] #[]].toArray w (a8 B Fr (.bool (decide (r1.map crC=r2.map crC)))):=by
 refine ap func29 aa ntmps29 aa (ac (ab (kPa aa aa (ad (ac (ac (ab (kPm aa aa (kPv (bB aa runUnderlying24 ⟨_,rfl⟩ rfl) aa (kPm aa aa (kPv (bB aa runUnderlying24 ⟨_,rfl⟩ rfl) aa ?_)))))))))))
 refine kPv (al aa aa aa) aa (ad ?_)
 refine aZ aa (fun h14=> ?_) (fun h14=> ?_)
 ·have hne:r1.length≠r2.length:=by intro e;rw[e] at h14;simp at h14
  refine ac (ab (kPa aa aa (ad (ay ?_))))
  exact au results29 aa (fun w hw=>⟨by rw[decide_eq_false (fun e=>hne (by have:=congrArg List.length e;simpa using this))],hw⟩)
 ·have hle:r1.length=r2.length:=by simp at h14;omega
  refine aq (ac (ac (ab (kPm aa aa (kPv (bB aa runUnderlying24 ⟨_,rfl⟩ rfl) aa (kPm aa aa (ad (aF (cy (ι:=Nat) [16,15,6,1,2] (fun k=>(k≤r1.length)∧(∀ j,j<k→(r1[j]?).map crC=(r2[j]?).map crC)) (fun k=>[(17,i64 k)]) (fun k=>Fr) (fun k=>r1.length - k) (0) (⟨Nat.zero_le _,fun j h=>absurd h (Nat.not_lt_zero _)⟩) (fun a w st=>st.to ⟨rfl,trivial⟩ (fun hh=>hh)) ?_)))))))))
  rintro k ⟨hk0,hall⟩
  try simp only at hk0 hall ⊢
  refine bZ (σ':=[(17,i64 k),(16,_),(15,_),(6,_),(1,_),(2,_)]) (aC aa) (ac (ab (kPv (al aa aa aa) aa (ad (ac ?_)))))
  refine aZ aa (fun h18=> ?_) (fun h18=> ?_)
  ·have hk:k<r1.length:=by simp at h18;omega
   refine uX h1.sl.up (by rw[List.length_map];omega) fun b1 o1 e1=> ?_
   subst e1
   refine uX h2.sl.up (by rw[List.length_map];omega) fun b2 o2 e2=> ?_
   subst e2
   refine aq (ac (aF (ac (ab (kPm aa aa (kPv (la (sz:=2) runUnderlying24 sizeOf32 aa aa (by omega) (by omega) aa) aa ?_))))))
   refine kPv (ix (i:=k) (c:=[i64 r1[k].1,slv r1[k].2.1]) isAgg32 sizeOf32 h1.sl.up aa (by rw[List.getElem?_map,List.getElem?_eq_getElem (by omega)];rfl)) aa ?_
   refine kPb (aD zeroValue32 aa) aa fun b8=>(kPa aa aa (kPs (az (vs:=[i64 r1[k].1,slv r1[k].2.1]) sizeOf32 aa aa aa aa aa) aa (ad (ac (ab (kPm aa aa (kPm aa aa (kPv (la (sz:=2) runUnderlying24 sizeOf32 aa aa (by omega) (by omega) aa) aa ?_))))))))
   refine kPv (ix (i:=k) (c:=[i64 (r2[k]'(by omega)).1,slv (r2[k]'(by omega)).2.1]) isAgg32 sizeOf32 h2.sl.up aa (by rw[List.getElem?_map,List.getElem?_eq_getElem (by omega)];rfl)) aa ?_
   refine kPb (aD zeroValue32 aa) aa fun b9=>(kPs (az (vs:=[i64 (r2[k]'(by omega)).1,slv (r2[k]'(by omega)).2.1]) sizeOf32 aa aa aa aa aa) aa (ad (am [9,8,17,16,15,6,1,2] rfl (ac (ab (kPm aa aa (kPv (ah isAgg32 sizeOf32 aa aa) aa ?_)))))))
   refine kPv (ah isAgg32 sizeOf32 aa aa) aa ?_
   refine aw aa (kw call30 aa aa) (yF _ _ r1[k] (r2[k]'(by omega)) (h1.up.nm _ (List.getElem_mem hk)) (h2.up.nm _ (List.getElem_mem _))) .free aa aa ?_
   refine kPv (bj aa) aa (ad ?_)
   refine aZ aa (fun h30=> ?_) (fun h30=> ?_)
   ·have hkk:crC r1[k]≠crC (r2[k]'(by omega)):=by simp only[Bool.not_eq_true',decide_eq_false_iff_not] at h30;exact h30
    refine ac (ab (kPa aa aa (ad (am [6,17,16,15,1,2] rfl (ay ?_)))))
    exact au results29 aa (fun w hw=>⟨by
   rw[decide_eq_false fun e=>hkk ?_]
   have h9:=congrArg (fun l=>l[k]?) e
   simp only[List.getElem?_map,List.getElem?_eq_getElem hk,List.getElem?_eq_getElem (show k<r2.length by omega),Option.map_some] at h9
   exact Option.some.inj h9,(hw.dp [0,0])⟩)
   ·have hkk:crC r1[k]=crC (r2[k]'(by omega)):=by simp only[Bool.not_eq_false',decide_eq_true_eq] at h30;exact h30
    refine aq (ab (kPv (aL aa aa) aa (kPm aa aa (ad (am [17,16,15,6,1,2] rfl ?_)))))
    exact fun a w st_=>⟨k+1,⟨by first | omega | (simp only;omega),fun j hj=>by
   rcases Nat.lt_succ_iff_lt_or_eq.1 hj with h | h
   ·exact hall j h
   ·subst h;rw[List.getElem?_eq_getElem hk,List.getElem?_eq_getElem (by omega)];exact congrArg some hkk⟩,by first | omega | (simp only;omega),st_.to (aC aa) (fun hh=>(hh.dp [0,0]))⟩
  ·have hk:¬ k<r1.length:=by simp at h18;omega
   refine bz (ac (ab (kPa aa aa (ad (ay ?_)))))
   exact au results29 aa (fun w hw=>⟨by
   have e:r1.map crC=r2.map crC:=List.ext_getElem? fun j=>by
    rw[List.getElem?_map,List.getElem?_map]
    by_cases hj:j<k
    ·exact hall j hj
    ·rw[List.getElem?_eq_none (by omega),List.getElem?_eq_none (by omega)]
   rw[decide_eq_true e],hw⟩)
theorem AE(B:World)(Fr:List HP)(q1 q2:Option Addr)(c1 c2:Nat)(r1 r2:List CR)(hn1:r1.length≤1000000)(hn2:r2.length≤1000000)(h1:CmR B Fr q1 c1 r1)(h2:CmR B Fr q2 c2 r2):
 ∀ w,Holds B Fr w→Calls Tryz.prog 15 [.slice q1 r1.length c1,.slice q2 r2.length c2].toArray w (a8 B Fr (.bool (decide (r1.map crC=r2.map crC)))):=by
 refine ap func15 aa ntmps15 aa (ac (ab (kPa aa aa (ad (ac (ab (kPm aa aa (kPm aa aa (aw aa (ar call29 aa) (CE _ _ q1 q2 c1 c2 r1 r2 hn1 hn2 h1 h2) .free aa aa ?_)))))))))
 refine kPa aa aa (ad (ay ?_))
 exact au results15 aa (fun w hw=>⟨rfl,hw⟩)
theorem zR{s:List UInt8}{i:Nat}(h:i<s.length):s.drop i=s.getD i 0::s.drop (i+1):=by
 rw[List.drop_eq_getElem_cons h];simp[h,List.getD]
theorem Af{s:List UInt8}{i:Nat}(h:i<s.length):(s.map u8v)[i]? =some (u8v (s.getD i 0)):=by
 simp[h,List.getD]
theorem zS{n:Nat}{c:UInt8}{t:List UInt8}(h:c.toNat<48∨57<c.toNat∨18446744073709551615<n*10+(c.toNat - 48)):jh n (c::t)=none:=by
 rw[jh,if_pos h]
theorem xK{n:Nat}{c:UInt8}{t:List UInt8}(h:¬ (c.toNat<48∨57<c.toNat∨18446744073709551615<n*10+(c.toNat - 48))):jh n (c::t)=jh (n*10+(c.toNat - 48)) t:=by
 rw[jh,if_neg h]
theorem Bm{s:List UInt8}(h:s=[]∨20<s.length∨(s.getD 0 0=48∧1<s.length)):pz s=none:=by
 unfold pz;rw[if_pos h]
theorem Bn{s:List UInt8}(h:¬ (s=[]∨20<s.length∨(s.getD 0 0=48∧1<s.length))):pz s=jh 0 s:=by
 unfold pz;rw[if_neg h]
theorem CM{c:UInt8}:((c.toNat:Int)==48)=(c==48):=by
 rw[Bool.eq_iff_iff]
 simp only[beq_iff_eq]
 constructor
 ·intro h;apply UInt8.toNat_inj.1;show c.toNat=48;omega
 ·intro h;subst h;rfl
theorem DC{s:List UInt8}(h:s≠[]):s[(0:Int).toNat]? =some (s.getD 0 0):=by
 cases s with
 | nil=>exact absurd aa h
 | cons a t=>rfl
def CG(s:List UInt8):Bool:=(s==[])||decide ((s.length:Int)>20)||(((s.getD 0 0).toNat:Int)==48&&decide ((s.length:Int)>1))
theorem tO(s:List UInt8):CG s=true↔(s=[]∨20<s.length∨(s.getD 0 0=48∧1<s.length)):=by
 unfold CG
 rw[CM]
 simp only[Bool.or_eq_true,Bool.and_eq_true,beq_iff_eq,decide_eq_true_eq]
 constructor
 ·rintro((h | h) | ⟨h1,h2⟩)
  ·exact .inl h
  ·exact .inr (.inl (by omega))
  ·exact .inr (.inr ⟨h1,by omega⟩)
 ·rintro(h | h | ⟨h1,h2⟩)
  ·exact .inl (.inl h)
  ·exact .inl (.inr (by omega))
  ·exact .inr ⟨h1,by omega⟩
theorem xJ(B:World)(Fr:List HP)(s:List UInt8)(hs:s.length≤1000000):
 ∀ w,Holds B Fr w→Calls Tryz.prog 39 [str s].toArray w (a8 B Fr (.tuple #[w64 ((pz s).getD 0:Nat),.bool (pz s).isSome])):=by
 refine ap func39 aa ntmps39 aa (ac (ab (kPa aa aa (kPa aa aa (ad (ac (ac (ab (kPm aa aa (kPv (mO aa aa aa) aa (kPm aa aa ?_)))))))))))
 apply fS (tp:=14) (t:=10) (σ1:=[(10,_),(3,_),(2,_),(0,_)]) 4 rfl (aC rfl)
 ·intro hg1
  refine ak aa (aj aa) (.on aa aa (ae hg1)) aa aa (ak aa (iH aa runUnderlying9 aa) (.on aa aa (ae hg1)) aa aa (ak aa (al aa aa aa) (.on aa aa (ae hg1)) aa aa (kPv (aG aa hg1 aa) aa ?_)))
  exact aV aa (aC aa) (eV hg1)
 ·intro hg1
  refine ao aa (.on aa aa (ag hg1)) aa (ao aa (.on aa aa (ag hg1)) aa (ao aa (.on aa aa (ag hg1)) aa (kPv (ax aa hg1 aa) aa ?_)))
  exact aV aa (aC aa) (eU hg1)
 refine kPm aa aa ?_
 apply fS (tp:=24) (t:=15) (σ1:=[(15,_),(3,_),(2,_),(0,_)]) 9 rfl (aC rfl)
 ·intro hg2
  try have hne0:s≠[]:=by intro e;rw[e] at hg2;revert hg2;decide
  refine ak aa (aj aa) (.on aa aa (ae hg2)) aa aa (ak aa (Bj (b:=s.getD 0 0) runUnderlying9 aa aa (by decide) (DC hne0)) (.on aa aa (ae hg2)) aa aa (ak aa (al aa aa aa) (.on aa aa (ae hg2)) aa aa (ak aa (aj aa) (.on aa aa (ae hg2)) aa aa ?_)))
  apply dD (tp:=23) (t:=19) (σ1:=[(19,_),(15,_),(3,_),(2,_),(0,_)]) 4 rfl (aC rfl)
  ·intro hg3
   refine ak aa (aj aa) (.on aa aa (ae hg3)) aa aa (ak aa (iH aa runUnderlying9 aa) (.on aa aa (ae hg3)) aa aa (ak aa (al aa aa aa) (.on aa aa (ae hg3)) aa aa (ak aa (ax aa hg3 aa) (.on aa aa (ae hg2)) aa aa ?_)))
   exact aV aa (aC aa) (cQ hg3)
  ·intro hg3
   refine ao aa (.on aa aa (ag hg3)) aa (ao aa (.on aa aa (ag hg3)) aa (ao aa (.on aa aa (ag hg3)) aa (ak aa (aG aa hg3 aa) (.on aa aa (ae hg2)) aa aa ?_)))
   exact aV aa (aC aa) (cR hg3)
  refine kPv (aG aa hg2 aa) aa ?_
  exact aV aa (aC aa) (eV hg2)
 ·intro hg2
  try have hne0:s≠[]:=by intro e;rw[e] at hg2;revert hg2;decide
  refine ao aa (.on aa aa (ag hg2)) aa (ao aa (.on aa aa (ag hg2)) aa (ao aa (.on aa aa (ag hg2)) aa (ao aa (.on aa aa (ag hg2)) aa (ao aa (.und aa aa) aa (ao aa (.und aa aa) aa (ao aa (.und aa aa) aa (ao aa (.on aa aa (ag hg2)) aa (kPv (ax aa hg2 aa) aa ?_))))))))
  exact aV aa (aC aa) (eU hg2)
 refine ad ?_
 refine aZ aa (fun h24=> ?_) (fun h24=> ?_)
 ·have hno:pz s=none:=Bm ((tO s).1 h24)
  refine ac (ab (kPa aa aa (kPa aa aa (ad (ay ?_)))))
  exact bS results39 aa aa (fun w hw=>⟨by rw[hno];rfl,hw⟩)
 ·have hgo:pz s=jh 0 s:=Bn (fun h=>by have h2:=(tO s).2 h;unfold CG at h2;rw[h2] at h24;cases h24)
  refine aq (ac (ab (kPa aa aa (ad (ac (ac (ab (kPm aa aa (cK aa (CK runUnderlying9 runUnderlying72 runUnderlying5 aa) .free aa aa ?_)))))))))
  rintro _ _ ⟨b26,cap26,rfl,rfl⟩
  refine kPv (bB aa runUnderlying72 ⟨_,rfl⟩ rfl) aa (kPm aa aa (ad (aF (cy (ι:=Nat×Nat) [27,26,3,2] (fun (i,n)=>(i≤s.length)∧(n≤18446744073709551615)∧(jh 0 s=jh n (s.drop i))) (fun (i,n)=>[(28,i64 i),(4,w64 n)]) (fun (i,n)=>vg b26 s::Fr) (fun (i,n)=>s.length - i) (0,0) (⟨Nat.zero_le _,by decide,rfl⟩) (fun a w st=>st.to ⟨rfl,rfl,trivial⟩ (fun hh=>hh)) ?_))))
  rintro⟨i,n⟩ ⟨hi0,hn,hinv⟩
  try simp only at hi0 hn hinv ⊢
  refine bZ (σ':=[(28,i64 i),(4,w64 n),(27,_),(26,_),(3,_),(2,_)]) (aC aa) (ac (ab (kPv (al aa aa aa) aa (ad (ac ?_)))))
  refine aZ aa (fun h29=> ?_) (fun h29=> ?_)
  ·have hi:i<s.length:=by simp at h29;omega
   obtain⟨c,hc⟩:∃ c,c=s.getD i 0:=⟨_,rfl⟩
   have hdc:s.drop i=c::s.drop (i+1):=by rw[hc];exact zR hi
   have hbg:(s.map u8v)[i]? =some (u8v c):=by rw[hc];exact Af hi
   clear hc
   have hby:=UInt8.toNat_lt c
   refine aq (ac (aF (ac (ab (kPv (cj runUnderlying72 sizeOf5 aa aa (by omega) (by omega)) aa (kPv (bM (v:=u8v c) isAgg5 (xO (cap:=cap26) 0 aa) aa (by rw[Int.toNat_natCast];exact hbg)) aa (kPa aa aa (ad (ac (ab (kPm aa aa ?_)))))))))))
   refine kPv (cX (c:=(c.toNat:Int)) runUnderlying5 runUnderlying25 aa (dT (by omega))) aa (kPv (ls aa aa aa) aa (kPa aa aa (ad (ac (ac (ab (kPm aa aa (kPv (al aa aa aa) aa (kPm aa aa ?_)))))))))
   apply fS (tp:=40) (t:=37) (σ1:=[(37,_),(7,_),(28,_),(4,_),(27,_),(26,_),(3,_),(2,_)]) 3 rfl (aC rfl)
   ·intro hg4
    refine ak aa (aj aa) (.on aa aa (ae hg4)) aa aa (ak aa (al aa aa aa) (.on aa aa (ae hg4)) aa aa (kPv (aG aa hg4 aa) aa ?_))
    exact aV aa (aC aa) (eV hg4)
   ·intro hg4
    refine ao aa (.on aa aa (ag hg4)) aa (ao aa (.on aa aa (ag hg4)) aa (kPv (ax aa hg4 aa) aa ?_))
    exact aV aa (aC aa) (eU hg4)
   refine kPm aa aa ?_
   apply fS (tp:=47) (t:=41) (σ1:=[(41,_),(7,_),(28,_),(4,_),(27,_),(26,_),(3,_),(2,_)]) 6 rfl (aC rfl)
   ·intro hg5
    try have hd9:48≤c.toNat∧c.toNat≤57:=by simp at hg5;omega
    refine ak aa (aj aa) (.on aa aa (ae hg5)) aa aa (ak aa (aj aa) (.on aa aa (ae hg5)) aa aa (ak aa (ls (c:=18446744073709551615 - ((c.toNat:Int) - 48)) aa aa (by rw[show IntKind.u64.wrap ((c.toNat:Int) - 48)=(c.toNat:Int) - 48 from dT (by omega)];exact dT (by omega))) (.on aa aa (ae hg5)) aa aa (ak aa (kv (c:=(18446744073709551615 - ((c.toNat:Int) - 48)) / 10) aa aa (by decide) (by rw[Int.tdiv_eq_ediv_of_nonneg (by omega)];exact dT (by omega))) (.on aa aa (ae hg5)) aa aa (ak aa (al aa aa aa) (.on aa aa (ae hg5)) aa aa (kPv (aG aa hg5 aa) aa ?_)))))
    exact aV aa (aC aa) (eV hg5)
   ·intro hg5
    try have hd9:48≤c.toNat∧c.toNat≤57:=by simp at hg5;omega
    refine ao aa (.on aa aa (ag hg5)) aa (ao aa (.on aa aa (ag hg5)) aa (ao aa (.on aa aa (ag hg5)) aa (ao aa (.on aa aa (ag hg5)) aa (ao aa (.on aa aa (ag hg5)) aa (kPv (ax aa hg5 aa) aa ?_)))))
    exact aV aa (aC aa) (eU hg5)
   refine ad ?_
   refine aZ aa (fun h47=> ?_) (fun h47=> ?_)
   ·have hbad:jh n (s.drop i)=none:=by
     rw[hdc];refine zS ?_
     simp at h47;omega
    refine ac (ab (kPa aa aa (kPa aa aa (ad (ay ?_)))))
    exact bS results39 aa aa (fun w hw=>⟨by rw[hgo,hinv,hbad];rfl,(hw.dp [0])⟩)
   ·have hok:¬ (c.toNat<48∨57<c.toNat∨18446744073709551615<n*10+(c.toNat - 48)):=by simp at h47;omega
    refine aq (ab (kPm aa aa (kPv (mg aa aa) aa (kPm aa aa (kPv (iQ (c:=((n*10+(c.toNat - 48):Nat):Int)) aa aa (by rw[show IntKind.u64.wrap ((c.toNat:Int) - 48)=(c.toNat:Int) - 48 from dT (by omega),dT (by omega)];omega)) aa (kPa aa aa (ad (am [4,28,27,26,3,2] rfl (ab (kPv (aL aa aa) aa (kPm aa aa ?_)))))))))))
    refine ad ?_
    exact fun a w st_=>⟨(i+1,n*10+(c.toNat - 48)),⟨by first | omega | (simp only;omega),by first | omega | (simp only;omega),by rw[hinv,hdc,xK hok]⟩,by first | omega | (simp only;omega),st_.to (aC aa) (fun hh=>hh)⟩
  ·have hi:¬ i<s.length:=by simp at h29;omega
   refine bz (ac (ab (kPm aa aa (kPa aa aa (kPa aa aa (ad (ay ?_)))))))
   exact bS results39 aa aa (fun w hw=>⟨by rw[hgo,hinv,List.drop_eq_nil_of_le (by omega)];rfl,(hw.dp [0])⟩)
def o7(c:Cmd):List UInt8:=if c.1<0∨18≤c.1 then [63] else c.2.foldl (fun l n=>l++([32]++Lib.decDigits n.toNat)) (fw c.1.toNat)
theorem zk:∀ k,k<18→(fw k).length≤7:=by decide
theorem Bb{B:World}(fg:FG B){k:Nat}(hk:k<18):B.cell? ⟨1,k*2,none⟩=some (str (fw k)):=by
 obtain⟨b,off,e,_,h⟩:=fg.cell 0 (by decide)
 injection e with e
 injection e with e1 e2
 subst e1;subst e2
 have h2:=h (k*2) (by omega)
 have h3:=mK k hk
 have h4:u5[k*2]? =some (str (fw k)):=by
  have:=congrArg (fun l=>l[0]?) h3
  simpa using this
 rw[show 0+(0*36+k*2)=k*2 by omega,h4] at h2
 exact h2
theorem wT{α β:Type}{f:β→α→β}{a:β}{l:List α}{k:Nat}(h:k<l.length):(l.take (k+1)).foldl f a=f ((l.take k).foldl f a) l[k]:=by
 rw[List.take_succ_eq_append_getElem h,List.foldl_append];rfl
theorem qG(B:World)(Fr:List HP)[cV Fr B](gl:GL B){n:Int}(h:0≤n∧n<18446744073709551616):∀ w,Holds B Fr w→Calls Tryz.prog 21 [w64 n,i64 10].toArray w (a8 B Fr (str (Lib.decDigits n.toNat))):=by
 obtain⟨u,rfl⟩:=Int.eq_ofNat_of_zero_le h.1
 exact tC B Fr gl u (by omega)
theorem yw{xs:List Int}{k:Nat}(hk:k<xs.length):(xs.map w64)[k]? =some (w64 xs[k]):=by simp[hk]
theorem z7(B:World)(Fr:List HP)[cV Fr B](gl:GL B)(fg:FG B)(kd:Int)(q:Option Addr)(cap:Nat)(ns:List Int)(hn:ns.length≤1000)(hnb:∀ n∈ns,0≤n∧n<18446744073709551616)(hr:SlR B Fr (.slice q ns.length cap) (ns.map w64))(hq:∀ i,i<ns.length→∃ b off,q=some ⟨b,off,none⟩):
 ∀ w,Holds B Fr w→Calls Tryz.prog 13 [.agg #[i64 kd,.slice q ns.length cap]].toArray w (a8 B Fr (str (o7 (kd,ns)))):=by
 refine ap func13 aa ntmps13 aa (ac (ab (kPb (aY aa) aa fun b1=>(kPa aa aa (ad (ac (ac (ab (kPl iG isAgg29 aa aa aa aa (kPv (al aa aa aa) aa (kPm aa aa ?_)))))))))))
 apply fS (tp:=13) (t:=9) (σ1:=[(9,_),(2,_),(1,_)]) 4 rfl (aC rfl)
 ·intro hg1
  refine ak aa (aE (m:=_) iG aa aa) (.on aa aa (ae hg1)) aa aa (ak aa (ai isAgg29 aa aa) (.on aa aa (ae hg1)) aa aa (ak aa (al aa aa aa) (.on aa aa (ae hg1)) aa aa (kPv (aG aa hg1 aa) aa ?_)))
  exact aV aa (aC aa) (eV hg1)
 ·intro hg1
  refine ao aa (.on aa aa (ag hg1)) aa (ao aa (.on aa aa (ag hg1)) aa (ao aa (.on aa aa (ag hg1)) aa (kPv (ax aa hg1 aa) aa ?_)))
  exact aV aa (aC aa) (eU hg1)
 refine ad ?_
 refine aZ aa (fun h13=> ?_) (fun h13=> ?_)
 ·have hbad:kd<0∨18≤kd:=by simpa using h13
  have hres:o7 (kd,ns)=[63]:=by unfold o7;rw[if_pos hbad]
  refine ac (ab (kPa aa aa (ad (ay ?_))))
  exact au results13 aa (fun w hw=>⟨by rw[hres],(hw.dp [0])⟩)
 ·have hok:¬ (kd<0∨18≤kd):=by intro h;simp at h13;omega
  have hk18:kd.toNat<18:=by omega
  have hres:o7 (kd,ns)=ns.foldl (fun l n=>l++([32]++Lib.decDigits n.toNat)) (fw kd.toNat):=by unfold o7;rw[if_neg hok]
  have hf0:=zk kd.toNat hk18
  refine aq (ac (ab (kPl iG isAgg29 aa aa aa aa (kPv (lx (m:=kd.toNat*2) runUnderlying62 sizeOf61 aa aa (by omega) (by omega) (by omega)) aa (kPv (aE (m:=_) wA aa aa) aa (kPv (mh isAgg9 aa (Bb fg hk18)) aa (kPa aa aa (ad (am [3,2,1] rfl (ac (ac ?_)))))))))))
  refine ab (kPl iF isAgg30 aa aa aa aa (kPv (bB aa runUnderlying30 ⟨_,rfl⟩ rfl) aa (kPm aa aa (ad (aF (cy (ι:=Nat×List UInt8) [21,20,2] (fun (k,o)=>(k≤ns.length)∧(o=((ns.take k).foldl (fun l n=>l++([32]++Lib.decDigits n.toNat)) (fw kd.toNat)))∧(o.length≤7+k*21)) (fun (k,o)=>[(22,i64 k),(3,str o)]) (fun (k,o)=>row b1 [i64 kd,.slice q ns.length cap] 32::Fr) (fun (k,o)=>ns.length - k) (0,fw kd.toNat) (⟨Nat.zero_le _,by simp,by omega⟩) (fun a w st=>st.to ⟨rfl,rfl,trivial⟩ (fun hh=>hh)) ?_))))))
  rintro⟨k,o⟩ ⟨hk0,ho,hol⟩
  try simp only at hk0 ho hol ⊢
  refine bZ (σ':=[(22,i64 k),(3,str o),(21,_),(20,_),(2,_)]) (aC aa) (ac (ab (kPv (al aa aa aa) aa (ad (ac ?_)))))
  refine aZ aa (fun h23=> ?_) (fun h23=> ?_)
  ·have hk:k<ns.length:=by simp at h23;omega
   obtain⟨bq,oq,rfl⟩:=hq k hk
   have hd20:=pA (ns[k]).toNat (by have:=hnb _ (List.getElem_mem hk);omega)
   refine aq (ac (aF (ac (ab (kPv (cj runUnderlying30 sizeOf25 aa aa (by omega) (by omega)) aa (kPv (bM (v:=w64 ns[k]) isAgg25 hr.up aa (by rw[Int.toNat_natCast];exact yw hk)) aa (kPa aa aa (ad (ab (kPm aa aa (kPm aa aa ?_)))))))))))
   refine aw aa (ar call21 aa) (qG B _ gl (hnb _ (List.getElem_mem hk))) .free aa aa ?_
   refine ak aa (kR aa aa (by first | omega | (simp only[List.length_append,List.length_cons,List.length_nil];omega))) .free aa aa ?_
   refine ak aa (kR aa aa (by first | omega | (simp only[List.length_append,List.length_cons,List.length_nil];omega))) .free aa aa ?_
   refine kPa aa aa (ad (am [3,22,21,20,2] rfl (ab (kPv (aL aa aa) aa (kPm aa aa (ad ?_))))))
   exact fun a w st_=>⟨(k+1,o++([32]++Lib.decDigits (ns[k]).toNat)),⟨by first | omega | (simp only;omega),by rw[wT hk,ho],by simp only[List.length_append,List.length_cons,List.length_nil];omega⟩,by first | omega | (simp only;omega),st_.to (aC aa) (fun hh=>hh)⟩
  ·have hk:k=ns.length:=by simp at h23;omega
   refine bz (ac (ab (kPm aa aa (kPa aa aa (ad (ay ?_))))))
   exact au results13 aa (fun w hw=>⟨by rw[hres,ho,hk,List.take_length],(hw.dp [0])⟩)
end Go.Proofs.YtoakdoeajpjgkaaGreatDoor
