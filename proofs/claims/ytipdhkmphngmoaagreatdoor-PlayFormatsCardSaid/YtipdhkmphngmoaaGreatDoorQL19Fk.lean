/- Part of a law's texts. Conditions: none. -/
import Derived.Test.YtipdhkmphngmoaaGreatDoorQL19Fj
import Derived.LaidEql
open Go.Proofs.Tryz
set_option linter.all false
namespace Go.Proofs.YtipdhkmphngmoaaGreatDoor
open Go
theorem rn:∀ (k:Nat) (i:Int) (S S':bC) (s s':Dev),fj S→U64 s→S.todo=[]→jW k i S s= .ok S' s'→fj S'∧U64 s'∧S'.scan=S.scan∧S'.todo=[]∧S'.done=S.done∧S'.b=S.b∧S'.bd=S.bd∧S'.c=S.c∧S'.to_=S.to_∧S.free≤S'.free∧S'.free - S.free+66*(S.b.used.toNat - S'.went.length:Nat)≤66*(S.b.used.toNat - S.went.length:Nat)
 | 0,_,S,S',s,s',h,hu,ht,e=>by cases e;exact⟨h,hu,rfl,ht,rfl,rfl,rfl,rfl,rfl,Int.le_refl _,by omega⟩
 | k+1,i,S,S',s,s',h,hu,ht,e=>by
   unfold jW at e
   split at e
   ·exact rn k _ S S' s s' h hu ht e
   ·obtain⟨r,s1,e1,e⟩:=aL e
    obtain⟨_,s2,e2,e⟩:=aL e
    obtain⟨h1,hv,h2,h3,h4,h5,h6,h7,h8,h9,h10⟩:=mn h e1
    have u1:=jR hu e1
    have u2:=cA u1.1 (by omega) e2
    obtain⟨g1,gu,g2,g3,g4,g5,g6,g7,g8,g9,g10⟩:=rn k _ r.2 S' s2 s' h1 u2.1 (h3.trans ht) e
    rw[h5] at g10
    exact⟨g1,gu,g2.trans h2,g3,g4.trans h4,g5.trans h5,g6.trans h6,g7.trans h7,g8.trans h8,Int.le_trans h9 g9,by omega⟩
theorem qB:∀ (f:Nat) (i e:Int) (s s':Dev) (a:Unit),U64 s→lX f i e s= .ok a s'→U64 s'
 | 0,_,_,s,s',a,h,e=>by cases e;exact h
 | f+1,i,e',s,s',a,h,e=>by
   unfold lX at e
   split at e
   ·obtain⟨_,s1,e1,e⟩:=aL e
    exact qB f _ _ s1 s' a (dT h e1).1 e
   ·cases e;exact h
theorem zq{S:bC}{s s':Dev}{a:Unit}(h:U64 s)(e:S.keep s= .ok a s'):U64 s':=by
 unfold bC.keep at e
 obtain⟨_,s1,e1,e⟩:=aL e
 have h1:=qB _ _ _ _ _ _ h e1
 split at e
 ·exact(eY h1 e).1
 ·cases e;exact h1
theorem mx{S:bC}(h:fj S){s s':Dev}(hu:U64 s){r:Bool×bC}(e:S.step s= .ok r s'):fj r.2∧U64 s'∧r.2.b=S.b∧r.2.bd=S.bd∧r.2.c=S.c∧r.2.to_=S.to_∧r.1=r.2.done∧(r.1=false→r.2.meas<S.meas):=by
 have hwl:=h.wl;have hfb:=h.fb
 unfold bC.step at e
 split at e
 ·rename_i hd;cases e;exact⟨h,hu,rfl,rfl,rfl,rfl,hd.symm,fun hh=>by cases hh⟩
 rename_i hd
 have hd0:S.done=false:=by simpa using hd
 split at e
 ·rename_i w t ht
  obtain⟨r1,s1,e1,e⟩:=aL e
  cases e
  obtain⟨h1,_,h2,h3,h4,h5,h6,h7,h8,h9,h10⟩:=mn h e1
  refine⟨⟨h1.c,h1.b,h1.rl,h1.to_,h1.scan,h1.free,h1.nd,h1.rng,h1.val,fun v hv=>h.todo v (by rw[ht];exact List.mem_cons_of_mem _ hv),h1.rts⟩,(jR hu e1).1,h5,h6,h7,h8,by simp only[h4,hd0],fun _=> ?_⟩
  unfold bC.meas
  simp only[ht,h2,h4,h5,List.length_cons]
  split<;>omega
 ·rename_i ht
  have hub:=p7 (s.load S.scan)
  split at e
  ·rename_i hlt
   obtain⟨S1,s1,e1,e⟩:=aL e
   cases e
   obtain⟨h1,gu,h2,h3,h4,h5,h6,h7,h8,h9,h10⟩:=rn _ _ _ _ _ _ h hu ht e1
   have hsc:=h.scan
   refine⟨⟨h1.c,h1.b,h1.rl,h1.to_,⟨by have:=h1.scan;simp only;omega,by simp only;omega⟩,h1.free,h1.nd,h1.rng,h1.val,h1.todo,h1.rts⟩,gu,h5,h6,h7,h8,by simp only[h4,hd0],fun _=> ?_⟩
   unfold bC.meas
   simp only[ht,h2,h3,h4,h5]
   split<;>omega
  ·obtain⟨_,s1,e1,e⟩:=aL e
   cases e
   exact⟨⟨h.c,h.b,h.rl,h.to_,h.scan,h.free,h.nd,h.rng,h.val,h.todo,h.rts⟩,zq hu e1,rfl,rfl,rfl,rfl,rfl,fun hh=>by cases hh⟩
def Dp(x bd:Nat)(sc:Int):HP:=hex fun (y:Nat→Value)=>row x [ptr bd,y 1,y 2,y 3,y 4,y 5,y 6,y 7,i64 sc,y 9,y 10,y 11,y 12] 212
theorem DX{B:World}{x:Nat}{S:bC}{Fr:List HP}{w:World}(h:Holds B (eD x S::Fr) w):Holds B [Dp x S.bd S.scan] w:=by
 obtain⟨p,hx⟩:=h.hex
 refine Holds.unhex (fun i=>(fu S p.1 p.2.1 p.2.2).getD i .nilIface) ?_
 have h2:=hx.grp
 exact h2.map fun k a=>by
  obtain⟨h1,h2,d,s1,s2,ha,hl⟩:=a
  exact⟨h1,h2,d,s1,s2,ha,trivial⟩
instance m7.colf {H Fr:List HP} {x:Nat} {S:bC} [r:pP H (eD x S) Fr]:m7 H [Dp x S.bd S.scan]:=⟨fun h hh=>by
 obtain⟨i,h1,h2⟩:=r.get
 obtain⟨k1,k2,d,s1,s2,⟨p,hp⟩,hl⟩:=dI i h1 hh
 obtain⟨g1,g2,d',t1,t2,ha,hg⟩:=hp
 exact⟨g1,fun _=>none,fun _=> .inr aa,t1.trans s1,(fun _ _ e=>nomatch e),⟨fun i=>(fu S p.1 p.2.1 p.2.2).getD i .nilIface,ha⟩,trivial⟩⟩
theorem z8{B:World}{σ:Env}{P:Program}{α:Type}{A:α→HP}{o:Oper}{v:Value}(h:∀ y,Evs P B σ [A y] o v):Evs P B σ [hex A] o v:=fun a w kn hh=>by
 obtain⟨y,hy⟩:=hh.hex
 exact h y a w kn hy
theorem Bp{B:World}{n:Nat}{D:List Deferred}{σ:Env}{H H0:List HP}{P:Program}{ro:Cx}{K:Act→World→Prop}{X:Ext}{ops:Array Oper}{ms hs cs:List Nat}{ord:List Nat}{c:Bool}(f:∀ w,Holds B H w→Holds B H0 w)(h:GO B n D σ H (wpV P ro ops ms hs cs (Holds B H0) X K ord)):GO B n D σ H (fun a w=>(c=true→Holds B H0 w)∧wpV P ro ops ms hs cs (Holds B H0) X K ord a w):=fun a w s=>⟨fun _=>f w s.holds,h a w s⟩
theorem gw(f:Nat)(i e:Int)(s:Dev):lX (f+1) i e s=if i<e then (s.flush i).then fun _ s'=>lX f (i+8) e s' else .ok () s:=rfl
theorem ii(k:Nat)(i:Int)(S:bC)(s:Dev):jW (k+1) i S s=if s.load (S.scan+1+i)=0 then jW k (i+1) S s else (S.copied s (s.load (S.scan+1+i))).then fun r s1=>(s1.store (S.scan+1+i) r.1).then fun _ s2=>jW k (i+1) r.2 s2:=rfl
theorem i8(f:Nat)(S:bC)(s:Dev):uy (f+1) S s=(S.step s).then fun r s'=>if r.1=true then .ok r.2 s' else uy f r.2 s':=rfl
theorem Aq(B:World)(Fr:List HP)(x:Nat)(S:bC)(hS:fj S)(s:Dev)(hu:U64 s):
 ∀ w,Holds B (eD x S::ax S.bd s::Fr) w→Calls Tryz.prog 185 [ptr x].toArray w (Ret B (fun rv H'=>∃ r s',S.keep s= .ok r s'∧rv=B2 r∧H'=eD x {S with done:=true}::ax S.bd s'::Fr) (fun c H'=>∃ s',S.keep s= .off s'∧c=dh∧H'=ax S.bd s'::Fr)):=by
 refine ak func185 aa ntmps185 aa (jK fun rsv tsv mw hrsv htsv=> ?_)
 have hfb:=hS.fb
 have hfr:=hS.free
 have hto:=hS.to_
 refine ac (ac (ab (kPf px isAgg3 aa aa aa aa (kPa aa aa (ad (aI ?_))))))
 refine df (ι:=Int×Nat×Dev) [0] (fun (i,n,sI)=>(S.to_≤i∧i≤400000)∧(S.free - i≤n)∧(lX ((S.free - S.to_).toNat+1) S.to_ S.free s=lX (n+1) i S.free sI)) (fun (i,n,sI)=>[(2,i64 i)]) (fun (i,n,sI)=>row x (fu S rsv tsv mw) 212::da 0 (rsv,S.b.rts)::da 0 (tsv,S.todo)::bB .u64 i64 mw S.went::ax S.bd sI::Fr) (fun (i,n,sI)=>n) (S.to_,(S.free - S.to_).toNat,s) (⟨⟨by first | omega | (simp only;omega),by first | omega | (simp only;omega)⟩,by first | omega | (simp only;omega),rfl⟩) (fun a w st=>st.to ⟨rfl,trivial⟩ (fun hh=>hh)) ?_
 rintro⟨i,n,sI⟩ ⟨hi0,hn,hinv⟩
 try simp only at hi0 hn hinv ⊢
 refine cE (σ':=[(2,i64 i),(0,_)]) ⟨rfl,rfl,trivial⟩ (ac (ac (ab (kPm aa aa (kPf iw isAgg3 aa aa aa aa (kPv (am aa aa aa) aa (ad ?_)))))))
 refine aV aa (fun h12=> ?_) (fun h12=> ?_)
 ·have hlt:i<S.free:=by simpa using h12
  refine aw (ac (aI (ab (kPf gP isAgg53 aa aa aa aa (kPm aa aa ?_)))))
  refine aQ aa (ar call105 aa) (cS (fun Fr=>dJ _ Fr _ _ _)) .free aa aa ?_ ?_
  rotate_left
  ·rintro _ _ ⟨s9,⟨hm9,rfl⟩,rfl⟩
   exact aX fun w hh=>⟨_,⟨s9,by unfold bC.keep;rw[hinv,gw,if_pos hlt,hm9];rfl,rfl,rfl⟩,(hh.dp [0,0,0,0])⟩
  rintro _ _ ⟨s1,⟨e1,hm1,rfl⟩,rfl⟩
  refine ad (aj [2,0] rfl (ab (kPm aa aa (kPv (aP aa aa) aa (kPa aa aa (ad ?_))))))
  exact fun a w st_=>⟨(i+8,n - 1,s1),⟨by first | omega | (simp only;omega),by first | omega | (simp only;omega),by rw[hinv,gw,if_pos hlt,hm1,show n=n - 1+1 by omega];rfl⟩,by first | omega | (simp only;omega),st_.to ⟨rfl,rfl,trivial⟩ (fun hh=>hh)⟩
 ·have hlt:¬ i<S.free:=by simpa using h12
  refine bJ (ac (ac (cN Tryz.mixed (by kernel_rfl) (by kernel_rfl) ?_)))
  refine kQm aa aa (kQv (aF aa) aa (kQv (aC (m:=_) iw aa aa) aa (kQv (ag isAgg3 aa aa) aa (kQm aa aa (kQv (aF aa) aa (kQv (aC (m:=_) px aa aa) aa (kQv (ag isAgg3 aa aa) aa (kQv (am aa aa aa) aa (bM (aj [29,0] rfl ?_))))))))))
  refine aV aa (fun h29=> ?_) (fun h29=> ?_)
  ·have hgt:S.to_<S.free:=by simpa using h29
   refine ab (kPf gP isAgg53 aa aa aa aa ?_)
   refine aQ aa (ar call106 aa) (cS (fun Fr=>eW _ Fr _ _)) .free aa aa ?_ ?_
   rotate_left
   ·rintro _ _ ⟨s9,⟨hm9,rfl⟩,rfl⟩
    exact aX fun w hh=>⟨_,⟨s9,by unfold bC.keep;rw[hinv,gw,if_neg hlt];simp only[aU];rw[if_pos hgt];exact hm9,rfl,rfl⟩,(hh.dp [0,0,0,0])⟩
   rintro _ _ ⟨s2,⟨e2,hm2,rfl⟩,rfl⟩
   refine ad (ab (kPm aa aa (kPv (aF aa) aa (kPv (aC (m:=_) iv aa aa) aa (kPs (aO sizeOf4 aa aa aa aa) aa (ad (aj [] rfl ?_)))))))
   exact cG results185 (fun w hh=>⟨_,⟨(),_,by unfold bC.keep;rw[hinv,gw,if_neg hlt];simp only[aU];rw[if_pos hgt];exact hm2,rfl,rfl⟩,cK (S:={S with done:=true}) hrsv htsv hh⟩)
  ·have hgt:¬ S.to_<S.free:=by simpa using h29
   refine aw (ab (kPm aa aa (kPv (aF aa) aa (kPv (aC (m:=_) iv aa aa) aa (kPs (aO sizeOf4 aa aa aa aa) aa (ad ?_))))))
   exact cG results185 (fun w hh=>⟨_,⟨(),_,by unfold bC.keep;rw[hinv,gw,if_neg hlt];simp only[aU];rw[if_neg hgt],rfl,rfl⟩,cK (S:={S with done:=true}) hrsv htsv hh⟩)
theorem tM(B:World)(Fr:List HP)(x:Nat)(S:bC)(v:Int):
 ∀ w,Holds B (eD x S::Fr) w→Calls Tryz.prog 153 [ptr x,w64 v].toArray w (aZ B (eD x S::Fr) (i64 ((bG S.went v).getD 0))):=by
 refine ak func153 aa ntmps153 aa (jK fun rsv tsv mw hrsv htsv=>(ac (ab (kPa aa aa (ad (ac (ab (kPf l7 isAgg210 aa aa aa aa (kPm aa aa (kPv ((lz runUnderlying210 runUnderlying24 zeroValue3 aa aa).eq (mE _)) aa (kPa aa aa ?_)))))))))))
 refine ad (aj [4] rfl (au ?_))
 exact aq results153 aa (fun w hh=>⟨rfl,cK hrsv htsv hh⟩)
theorem kF(B:World)(Fr:List HP)(x:Nat)(S:bC)(hS:fj S)(s:Dev)(hu:U64 s):
 ∀ w,Holds B (eD x S::ax S.bd s::Fr) w→Calls Tryz.prog 150 [ptr x].toArray w (Ret B (fun rv H'=>∃ r s',S.step s= .ok r s'∧rv= .bool r.1∧H'=eD x r.2::ax S.bd s'::Fr) (fun c H'=>∃ s',S.step s= .off s'∧c=dh∧H'=ax S.bd s'::Fr)):=by
 refine ak func150 aa ntmps150 aa (jK fun rsv tsv mw hrsv htsv=> ?_)
 have hfb:=hS.fb
 have hfr:=hS.free
 have hto:=hS.to_
 have hscan:=hS.scan
 have hub:=p7 (s.load S.scan)
 refine ac (ab (kPa aa aa (ad (ac (aI (ac (ab (kPf iv isAgg4 aa aa aa aa (kPa aa aa (ad ?_))))))))))
 refine aV aa (fun h9=> ?_) (fun h9=> ?_)
 ·have hdone:S.done=true:=h9
  have hres:S.step s= .ok (true,S) s:=by unfold bC.step;rw[if_pos hdone]
  refine aw (ac (ab (kPf iv isAgg4 aa aa aa aa (kPa aa aa (ad (aj [2] rfl (au ?_)))))))
  exact aq results150 aa (fun w hh=>⟨_,⟨_,_,hres,by rw[hdone],rfl⟩,cK hrsv htsv hh⟩)
 ·have hdone:S.done=false:=h9
  refine aM [2] (cy fun qt ct hqt hqi=> ?_)
  subst hqt
  refine aM [1,1,0,0] (ac (ab (kPf l8 isAgg22 aa aa aa aa (kPv (bS aa runUnderlying22 ⟨_,rfl⟩ rfl) aa (kPv (am aa aa aa) aa (kPa aa aa (ad (aj [14,2,0] rfl ?_))))))))
  refine aV aa (fun h14=> ?_) (fun h14=> ?_)
  ·obtain⟨v,t,htd⟩:∃ v t,S.todo=v::t:=by
    cases ht:S.todo with
    | nil=>rw[ht] at h14;simp at h14
    | cons v t=>exact⟨v,t,rfl⟩
   obtain⟨bq,oq,rfl⟩:=hqi 0 (by rw[htd];exact Nat.succ_pos _)
   refine ac (ab (kPm aa aa (kPf l8 isAgg22 aa aa aa aa (kPv (cC runUnderlying22 sizeOf24 aa aa (by decide) (by rw[htd];simp only[List.length_cons];omega)) aa (kPv (cf (v:=w64 v) isAgg24 (cP 2 aa) aa (by rw[htd];rfl)) aa (aK (fun w hh=>cK hrsv htsv hh) ?_))))))
   refine aQ aa (ar call184 aa) (pJ B _ x S hS s hu v (hS.todo _ (by rw[htd];exact List.mem_cons_self ..))) .free aa aa ?_ ?_
   rotate_left
   ·rintro _ _ ⟨s9,hm9,rfl,rfl⟩
    exact aX fun w hh=>⟨_,⟨s9,by unfold bC.step;rw[if_neg (by rw[hdone];decide)];simp only[htd];rw[hm9];rfl,rfl,rfl⟩,hh⟩
   rintro _ _ ⟨r1,s1,hm1,rfl,rfl⟩
   obtain⟨hS1,hrv1,hsc1,htd1,hdn1,hb1,hbd1,hc1,hto1,hfr1,hms1⟩:=mn hS hm1
   have hu1:=(jR hu hm1).1
   refine ad (aj [2,0] rfl (ab (jK fun rsv2 tsv2 mw2 hrsv2 htsv2=>(kPm aa aa (kPm aa aa (kPv (aF aa) aa (kPv (aC (m:=_) l8 aa aa) aa (aM [2] (aK (H':=da 0 (tsv2,v::t)::_) (fun w hh=>by rw[htd1,htd] at hh;exact hh) (kPv (ag isAgg22 aa aa) aa (cX aa (tV (v:=v) (xs:=t) runUnderlying22 sizeOf24 aa aa) .free aa aa ?_)))))))))))
   rintro tv3 _ ⟨htv3,rfl⟩
   refine aM [1,1] (kPv (aF aa) aa (kPv (aC (m:=_) l8 aa aa) aa ?_))
   refine kPs (aO sizeOf22 aa aa (by first | rfl | assumption) rfl) rfl ?_;refine ad ?_;refine aj [2,0] rfl ?_;refine ac ?_;refine ab ?_;refine kPf iv isAgg4 aa aa aa aa ?_;refine kPa aa aa ?_;refine ad ?_;refine au ?_
   exact aq results150 aa (fun w hh=>⟨_,⟨_,_,by unfold bC.step;rw[if_neg (by rw[hdone];decide)];simp only[htd];rw[hm1];rfl,by rw[hdn1,hdone],rfl⟩,cK (S:={r1.2 with todo:=t}) hrsv2 htv3 hh⟩)
  ·have htd:S.todo=[]:=by
    cases ht:S.todo with
    | nil=>rfl
    | cons v t=>rw[ht] at h14;simp at h14<;>omega
   refine ac (cN Tryz.mixed (by kernel_rfl) (by kernel_rfl) ?_)
   refine kQm aa aa (kQv (aF aa) aa (kQv (aC (m:=_) jd aa aa) aa (kQv (ag isAgg3 aa aa) aa (kQm aa aa (kQv (aF aa) aa (kQv (aC (m:=_) iw aa aa) aa (kQv (ag isAgg3 aa aa) aa (kQv (am aa aa aa) aa (kQa aa aa (bM (aj [37,2,0] rfl ?_)))))))))))
   refine aV aa (fun h37=> ?_) (fun h37=> ?_)
   ·have hlt:S.scan<S.free:=by simpa using h37
    have hstep:S.step s=(jW (unp (s.load S.scan)).2.1.toNat 0 S s).then fun S' s'=> .ok (false,{S' with scan:=S'.scan+((unp (s.load S.scan)).1+1)}) s':=by unfold bC.step;rw[if_neg (by rw[hdone];decide)];simp only[htd];rw[if_pos hlt]
    refine ac ?_
    refine kV (.br [0,1,2,3,4,5,6,7] 8 (.br [] 9 (.fin [10,11,12,13,14,15]) 13 (.fin [9,10,11,12,14,15])) 13 (.fin [8,9,10,11,12,14,15])) [8,9,13,14] [0,1,2,3,4,5,6,7,10,11,12] [13,14] [row x (fu S rsv (.slice qt S.todo.length ct) mw) 212] [2,0] (G:=Nat) (fun b3=>[(3,ptr b3),(4,.bool (unp (s.load S.scan)).2.2)]) (fun b3=>row b3 [i64 (unp (s.load S.scan)).1,i64 (unp (s.load S.scan)).2.1] 63::row x (fu S rsv (.slice qt S.todo.length ct) mw) 212::da 0 (rsv,S.b.rts)::da 0 (.slice qt S.todo.length ct,S.todo)::bB .u64 i64 mw S.went::ax S.bd s::Fr) Tryz.mixed (by kernel_rfl) ?_ ?_
    ·skip
     refine w9 (an aa aa aa (al aa) .free aa (an aa aa aa (aF aa) .free aa (an aa aa aa (aC (m:=_) gP aa aa) .free aa (an aa aa aa (ag isAgg53 aa aa) .free aa (an aa aa aa (al aa) .free aa (an aa aa aa (aF aa) .free aa (an aa aa aa (aC (m:=_) jd aa aa) .free aa (an aa aa aa (ag isAgg3 aa aa) .free aa (cM ?_)))))))))
     refine p8 aa aa ?_ ?_
     ·skip
      refine ap aa (ar call101 aa) (bF (q:=ax) (fun Fr=>ck _ Fr _ _ _)) .free aa aa ?_
      refine ad (se aa (w9 (cM ?_)))
      refine p8 aa aa ?_ ?_
      ·skip
       refine ap aa (ar call176 aa) (iZ _ _ _) .free aa aa ?_
       refine ad (se aa (jV (an aa aa aa (al aa) .free aa (an aa aa aa (az aa aa) .free aa (an aa aa aa (az aa aa) .free aa (aS aa aa (kPb (aD zeroValue63 aa) aa fun b3=>(ad (cL (aS aa aa (kPs (aA (vs:=_) sizeOf63 aa aa aa aa aa) aa ?_)))))))))))
       refine ad (cL (aT aa aa aa (bE aa) .free aa (cM ?_)))
       exact fun a w st_=>⟨b3,st_.to (aG aa) (fun hh=>hh)⟩
      ·skip
       refine kPb (aD zeroValue63 aa) aa fun b3=>(ad (ul (jV (aS aa aa (ap aa (ar call176 aa) (iZ _ _ _) .free aa aa ?_)))))
       refine ad (cZ aa (an aa aa aa (al aa) .free aa (an aa aa aa (az aa aa) .free aa (an aa aa aa (az aa aa) .free aa (aS aa aa (kPs (aA (vs:=_) sizeOf63 aa aa aa aa aa) aa (ad (cL (aT aa aa aa (bE aa) .free aa (cM ?_))))))))))
       exact fun a w st_=>⟨b3,st_.to (aG aa) (fun hh=>hh)⟩
     ·skip
      refine kPb (aD zeroValue63 aa) aa fun b3=>(ad (ul (jV (aS aa aa (ap aa (ar call101 aa) (bF (q:=ax) (fun Fr=>ck _ Fr _ _ _)) .free aa aa ?_)))))
      refine ad (cZ aa (aS aa aa (ap aa (ar call176 aa) (iZ _ _ _) .free aa aa ?_)))
      refine ad (cZ aa (an aa aa aa (al aa) .free aa (an aa aa aa (az aa aa) .free aa (an aa aa aa (az aa aa) .free aa (aS aa aa (kPs (aA (vs:=_) sizeOf63 aa aa aa aa aa) aa (ad (cL (aT aa aa aa (bE aa) .free aa (cM ?_))))))))))
      exact fun a w st_=>⟨b3,st_.to (aG aa) (fun hh=>hh)⟩
    intro b3
    refine cE (σ':=[(3,ptr b3),(4,.bool (unp (s.load S.scan)).2.2),(2,_),(0,_)]) (aG aa) (ac (ac (aM [1,1,1,1] (aK (fun w hh=>cK hrsv htsv hh) (ab (kPl gC isAgg3 aa aa aa aa (kPm aa aa (ad (aI ?_)))))))))
    refine df (ι:=Nat×bC×Dev) [61,3,2,0] (fun (i,SI,sI)=>((i:Int)≤(unp (s.load S.scan)).2.1)∧(fj SI)∧(U64 sI)∧(SI.todo=[])∧(SI.done=S.done)∧(SI.bd=S.bd)∧(SI.scan=S.scan)∧(jW (unp (s.load S.scan)).2.1.toNat 0 S s=jW ((unp (s.load S.scan)).2.1.toNat - i) i SI sI)) (fun (i,SI,sI)=>[(62,i64 i)]) (fun (i,SI,sI)=>row b3 [i64 (unp (s.load S.scan)).1,i64 (unp (s.load S.scan)).2.1] 63::eD x SI::ax SI.bd sI::Fr) (fun (i,SI,sI)=>(unp (s.load S.scan)).2.1.toNat - i) (0,S,s) (⟨by first | omega | (simp only;omega),hS,hu,htd,rfl,rfl,rfl,rfl⟩) (fun a w st=>st.to ⟨rfl,trivial⟩ (fun hh=>(hh.pk [1]))) ?_
    rintro⟨i,SI,sI⟩ ⟨hi0,hSI,huI,htdI,hdI,hbdI,hscI0,hinv⟩
    try simp only at hi0 hSI huI htdI hdI hbdI hscI0 hinv ⊢
    refine cE (σ':=[(62,i64 i),(61,_),(3,_),(2,_),(0,_)]) (aG aa) (ac (ab (kPv (am aa aa aa) aa (ad (ac ?_)))))
    refine aV aa (fun h63=> ?_) (fun h63=> ?_)
    ·have hi:(i:Int)<(unp (s.load S.scan)).2.1:=by simpa using h63
     have hscI:=hSI.scan
     refine aw (ac (aI (ac (ab (kPm aa aa (kPa aa aa (ad (ac (aM [1] (jK fun rsv2 tsv2 mw2 hrsv2 htsv2=>(cN Tryz.mixed (by kernel_rfl) (by kernel_rfl) ?_)))))))))))
     refine kQm aa aa (kQv (aF aa) aa (kQv (aC (m:=_) gP aa aa) aa (kQv (ag isAgg53 aa aa) aa (kQm aa aa (kQv (aF aa) aa (kQv (aC (m:=_) jd aa aa) aa (kQv (ag isAgg3 aa aa) aa (kQv (aP aa aa) aa (kQm aa aa (kQv (aP aa aa) aa (bj aa (ar call101 aa) (bF (q:=ax) (fun Fr=>ck _ Fr _ _ _)) .free aa ?_)))))))))))
     refine kQa aa aa (bM (aj [6,5,62,61,3,2,0] rfl (ac (aK (fun w hh=>cK hrsv2 htsv2 hh) (ab (kPm aa aa (kPv (am aa aa aa) aa (ad ?_))))))))
     refine aV aa (fun h78=> ?_) (fun h78=> ?_)
     ·have hne:¬ sI.load (SI.scan+1+i)=0:=by simpa using h78
      refine aM [0,1] (aK (fun w hh=>hh) (cQ [0,1,2,3,4,5,6,7,8,9,10,11,12,13,14,15] [13,15] [0,1,2,3,4,5,6,7,8,9,10] [13] [Dp x SI.bd SI.scan] Tryz.mixed (by kernel_rfl) ?_))
      refine an aa aa aa (al aa) .free aa (an aa aa aa (aF aa) .free aa (an aa aa aa (aC (m:=_) gP aa aa) .free aa (an aa aa aa (z8 fun y=>ag isAgg53 aa aa) .free aa (an aa aa aa (al aa) .free aa (an aa aa aa (aF aa) .free aa (an aa aa aa (aC (m:=_) jd aa aa) .free aa (an aa aa aa (z8 fun y=>ag isAgg3 aa aa) .free aa (an aa aa aa (aP aa aa) .free aa (an aa aa aa (al aa) .free aa (an aa aa aa (aP aa aa) .free aa (aT aa aa aa (al aa) .free aa ?_)))))))))))
      refine aT aa aa aa (al aa) .free aa (aS aa aa ?_)
      refine aQ aa (ar call184 aa) (pJ B _ x SI hSI sI huI (sI.load (SI.scan+1+i)) (huI.load _)) .free aa aa ?_ ?_
      rotate_left
      ·rintro _ _ ⟨s9,hm9,rfl,rfl⟩
       exact aX fun w hh=>⟨_,⟨s9,by rw[hstep,hinv,show(unp (s.load S.scan)).2.1.toNat - i=((unp (s.load S.scan)).2.1.toNat - (i+1))+1 by omega,ii,if_neg hne,hm9];rfl,rfl,rfl⟩,by rw[←hbdI];exact hh.dp [1]⟩
      rintro _ _ ⟨r2,s2,hm2,rfl,rfl⟩
      obtain⟨hS2,hrv2,hsc2,htd2,hdn2,hb2,hbd2,hc2,hto2,hfr2,hms2⟩:=mn hSI hm2
      have hu2:=(jR huI hm2).1
      refine ad (Bp (fun w hh=>by have h5:=DX hh;rw[hbd2,hsc2] at h5;exact h5) (aT aa aa aa (cR runUnderlying3 runUnderlying24 aa (fk (by omega))) .free aa (aS aa aa ?_)))
      refine aQ aa (ar call104 aa) (cS (fun Fr=>cI _ Fr _ _ _ _)) .free aa aa ?_ ?_
      rotate_left
      ·rintro _ _ ⟨s9,⟨hm9,rfl⟩,rfl⟩
       exact aX fun w hh=>⟨_,⟨s9,by rw[hstep,hinv,show(unp (s.load S.scan)).2.1.toNat - i=((unp (s.load S.scan)).2.1.toNat - (i+1))+1 by omega,ii,if_neg hne,hm2];simp only[aU];rw[hm9];rfl,rfl,rfl⟩,by rw[←hbdI];exact(hh.dp [0,1])⟩
      rintro _ _ ⟨s3,⟨e3,hm3,rfl⟩,rfl⟩
      refine ad (cZ aa (cM (aj [62,61,3,2,0] rfl (ab (kPv (aP aa aa) aa (kPm aa aa (ad ?_)))))))
      exact fun a w st_=>⟨(i+1,r2.2,s3),⟨by first | omega | (simp only;omega),hS2,(cA hu2 (by omega) hm3).1,htd2.trans htdI,hdn2.trans hdI,hbd2.trans hbdI,hsc2.trans hscI0,by rw[hinv,show(unp (s.load S.scan)).2.1.toNat - i=((unp (s.load S.scan)).2.1.toNat - (i+1))+1 by omega,ii,if_neg hne,hm2];simp only[aU];rw[hm3];rfl⟩,by first | omega | (simp only;omega),st_.to (aG aa) (fun hh=>(by first | exact(hh.pk [2]) | (simp only[hbd2];exact(hh.pk [2]))))⟩
     ·have hne:sI.load (SI.scan+1+i)=0:=by simpa using h78
      refine aw (ab (kPv (aP aa aa) aa (kPm aa aa (ad ?_))))
      exact fun a w st_=>⟨(i+1,SI,sI),⟨by first | omega | (simp only;omega),hSI,huI,htdI,hdI,hbdI,hscI0,by rw[hinv,show(unp (s.load S.scan)).2.1.toNat - i=((unp (s.load S.scan)).2.1.toNat - (i+1))+1 by omega,ii,if_pos hne];rfl⟩,by first | omega | (simp only;omega),st_.to (aG aa) (fun hh=>(by first | exact(hh.pk [1]) | (simp only[hbd2];exact(hh.pk [1]))))⟩
    ·have hi:¬ (i:Int)<(unp (s.load S.scan)).2.1:=by simpa using h63
     have hscI:=hSI.scan
     refine bJ (aM [1] (jK fun rsv3 tsv3 mw3 hrsv3 htsv3=>(cH 9 Tryz.mixed (by kernel_rfl) (by kernel_rfl) ?_)))
     refine kQm aa aa (kQv (aF aa) aa (kQv (aC (m:=_) jd aa aa) aa (kQv (ag isAgg3 aa aa) aa (kQv (ah isAgg63 sizeOf63 aa aa) aa ?_))))
     refine bj aa (ar call138 aa) (eJ _ _ _ _ (by omega)) .free aa ?_
     refine kQv (aP aa aa) aa (kQv (aF aa) aa (kQv (aC (m:=_) jd aa aa) aa (bM (kPs (aO sizeOf3 aa aa aa aa) aa (ad (aj [2,0] rfl (ac (ab (kPf iv isAgg4 aa aa aa aa (kPa aa aa (ad ?_)))))))))))
     refine au ?_
     exact aq results150 aa (fun w hh=>⟨_,⟨_,_,by rw[hstep,hinv,show(unp (s.load S.scan)).2.1.toNat - i=0 by omega];rfl,by rw[hdI,hdone],rfl⟩,by rw[←hbdI];exact cK (S:={SI with scan:=SI.scan+((unp (s.load S.scan)).1+1)}) hrsv3 htsv3 (hh.dp [4])⟩)
   ·have hlt:¬ S.scan<S.free:=by simpa using h37
    refine aK (fun w hh=>cK hrsv htsv hh) (ab (kPm aa aa ?_))
    refine aQ aa (ar call185 aa) (Aq B _ x S hS s hu) .free aa aa ?_ ?_
    rotate_left
    ·rintro _ _ ⟨s9,hm9,rfl,rfl⟩
     exact aX fun w hh=>⟨_,⟨s9,by unfold bC.step;rw[if_neg (by rw[hdone];decide)];simp only[htd];rw[if_neg hlt,hm9];rfl,rfl,rfl⟩,hh⟩
    rintro _ _ ⟨r1,s1,hm1,rfl,rfl⟩
    refine jK fun rsv4 tsv4 mw4 hrsv4 htsv4=>(ad (ac (ab (kPf iv isAgg4 aa aa aa aa (kPa aa aa (ad (aj [2] rfl (au ?_))))))))
    exact aq results150 aa (fun w hh=>⟨_,⟨(true,{S with done:=true}),s1,by unfold bC.step;rw[if_neg (by rw[hdone];decide)];simp only[htd];rw[if_neg hlt,hm1];rfl,rfl,rfl⟩,cK (S:={S with done:=true}) hrsv4 htsv4 hh⟩)
theorem oD:∀ (f:Nat) (S S':bC) (s s':Dev),fj S→U64 s→uy f S s= .ok S' s'→fj S'∧U64 s'∧S'.b=S.b∧S'.bd=S.bd∧S'.c=S.c∧S'.to_=S.to_
 | 0,S,S',s,s',h,hu,e=>by cases e;exact⟨h,hu,rfl,rfl,rfl,rfl⟩
 | f+1,S,S',s,s',h,hu,e=>by
   rw[i8] at e
   obtain⟨r,s1,e1,e⟩:=aL e
   obtain⟨h1,u1,g1,g2,g3,g4,_⟩:=mx h hu e1
   split at e
   ·cases e;exact⟨h1,u1,g1,g2,g3,g4⟩
   ·obtain⟨k1,k2,k3,k4,k5,k6⟩:=oD f _ _ _ _ h1 u1 e
    exact⟨k1,k2,k3.trans g1,k4.trans g2,k5.trans g3,k6.trans g4⟩
theorem pW{α β:Type}{f:α→β}{l:List α}{k:Nat}(hk:k<l.length):(l.take (k+1)).map f=(l.take k).map f++[f l[k]]:=by
 rw[List.take_succ_eq_append_getElem hk,List.map_append];rfl
theorem lU{bd:Nat}{c:Cfg}{b:Blk}{ws:List Int}(hc:bx c)(hb:fU c b)(hl:b.rts.length≤16)(hr:∀ v∈b.rts,0≤v∧v<18446744073709551616)(hw:∀ v∈ws,0≤v∧v<18446744073709551616):fj (ei bd c b ws):=by
 have h1:=hb.act
 have h2:=iI hc (k:=1 - b.act) (by omega)
 have h3:=hc.s1
 have h4:0≤c.frm (1 - b.act)∧c.frm (1 - b.act)≤20000:=by omega
 exact⟨hc,hb,hl,h4,⟨Int.le_refl _,by unfold ei;simp only;omega⟩,⟨Int.le_refl _,by simp[ei]⟩,List.nodup_nil,fun _ h=>(by cases h),fun _ h=>(by cases h),hw,hr⟩
theorem wQ(B:World)(Fr:List HP)(x:Nat)(S:bC)(hS:fj S)(s:Dev)(hu:U64 s):
 ∀ w,Holds B (eD x S::ax S.bd s::Fr) w→Calls Tryz.prog 91 [ptr x].toArray w (Ret B (fun rv H'=>∃ r s',S.run s= .ok r s'∧rv= .tuple #[]∧H'=eD x r::ax S.bd s'::Fr) (fun c H'=>∃ s',S.run s= .off s'∧c=dh∧H'=ax S.bd s'::Fr)):=by
 refine ak func91 aa ntmps91 aa (aI (df (ι:=Nat×bC×Dev) [0] (fun (n,SI,sI)=>(SI.meas<n)∧(fj SI)∧(U64 sI)∧(SI.bd=S.bd)∧(uy (S.meas+1) S s=uy n SI sI)) (fun (n,SI,sI)=>[]) (fun (n,SI,sI)=>eD x SI::ax SI.bd sI::Fr) (fun (n,SI,sI)=>n) (S.meas+1,S,s) (⟨Nat.lt_succ_self _,hS,hu,rfl,rfl⟩) (fun a w st=>st.to trivial (fun hh=>hh)) ?_))
 rintro⟨n,SI,sI⟩ ⟨hn,hSI,huI,hbdI,hinv⟩
 try simp only at hn hSI huI hbdI hinv ⊢
 refine cE (σ':=[(0,_)]) ⟨rfl,trivial⟩ (ac (ac (ab (kPm aa aa ?_))))
 refine aQ aa (ar call150 aa) (kF B _ x SI hSI sI huI) .free aa aa ?_ ?_
 rotate_left
 ·rintro _ _ ⟨s9,hm9,rfl,rfl⟩
  exact aX fun w hh=>⟨_,⟨s9,by unfold bC.run;rw[hinv,show n=n - 1+1 by omega,i8,hm9];rfl,rfl,rfl⟩,by rw[←hbdI];exact hh⟩
 rintro _ _ ⟨r1,s1,hm1,rfl,rfl⟩
 obtain⟨hS1,hu1,hb1,hbd1,hc1,hto1,hr1,hms1⟩:=mx hSI huI hm1
 refine kPv (bu aa) aa (ad ?_)
 refine aV aa (fun h4=> ?_) (fun h4=> ?_)
 ·have hg:r1.1=false:=by simpa using h4
  refine aw (aI (aw ?_))
  exact fun a w st_=>⟨(n - 1,r1.2,s1),⟨by have:=hms1 hg;first | omega | (simp only;omega),hS1,hu1,hbd1.trans hbdI,by rw[hinv,show n=n - 1+1 by omega,i8,hm1];simp only[aU];rw[if_neg (by rw[hg];decide)];rfl⟩,by first | omega | (simp only;omega),st_.to ⟨rfl,trivial⟩ (fun hh=>(by simp only[hbd1];exact hh))⟩
 ·have hg:r1.1=true:=by simpa using h4
  refine bJ ?_
  exact cG results91 (fun w hh=>⟨_,⟨_,_,by unfold bC.run;rw[hinv,show n=n - 1+1 by omega,i8,hm1];simp only[aU];rw[if_pos hg],rfl,rfl⟩,by rw[←hbdI];exact hh⟩)
theorem mV(B:World)(Fr:List HP)(x:Nat)(S:bC)(hS:fj S):
 ∀ w,Holds B (eD x S::Fr) w→Calls Tryz.prog 187 [ptr x].toArray w (Ret B (fun rv H'=>∃ sv,aN sv=true∧rv=lC S.block sv∧H'=da 0 (sv,S.block.rts)::eD x S::Fr) (fun _ _=>False)):=by
 refine ak func187 aa ntmps187 aa ?_
 have hfb:=hS.fb
 have hfr:=hS.free
 have hto:=hS.to_
 have hba:=hS.b.act
 have hrl:=hS.rl
 refine ac (ab (kPb (aD zeroValue125 aa) aa fun b2=>(ad (ac (aM [1] (jK fun rsv tsv mw hrsv htsv=> ?_))))))
 refine kV (.fin [0,1,2,3,4,5,6,7,8,9,10,11,12,13,14,15,16,17]) [16,17] [0,1,2,3,4,5,6,7,8,9,10,11,12,13,14,15] [16] [row x (fu S rsv tsv mw) 212] [2,0] (G:=Nat) (fun b3=>[(3,ptr b3)]) (fun b3=>row b3 [i64 (1 - S.b.act),i64 (S.free - S.to_),.slice none 0 0] 125::row x (fu S rsv tsv mw) 212::da 0 (rsv,S.b.rts)::da 0 (tsv,S.todo)::bB .u64 i64 mw S.went::row b2 [i64 0,i64 0,.slice none 0 0] 125::Fr) Tryz.mixed (by kernel_rfl) ?_ ?_
 ·skip
  refine jV (an aa aa aa (al aa) .free aa (an aa aa aa (aF aa) .free aa (an aa aa aa (aC (m:=_) ma aa aa) .free aa (an aa aa aa (aC (m:=_) iy aa aa) .free aa (an aa aa aa (ag isAgg3 aa aa) .free aa (an aa aa aa (fF aa aa) .free aa (an aa aa aa (al aa) .free aa (an aa aa aa (aF aa) .free aa (an aa aa aa (aC (m:=_) iw aa aa) .free aa (an aa aa aa (ag isAgg3 aa aa) .free aa (an aa aa aa (al aa) .free aa ?_)))))))))))
  refine an aa aa aa (aF aa) .free aa (an aa aa aa (aC (m:=_) px aa aa) .free aa (an aa aa aa (ag isAgg3 aa aa) .free aa (an aa aa aa (fF aa aa) .free aa (an aa aa aa (aR aa (nD _ _ aa aa)) .free aa (aS aa aa (kPb (aD zeroValue125 aa) aa fun b3=>(ad (cL (aS aa aa ?_)))))))))
  refine kPs (aA (vs:=_) sizeOf125 aa aa aa (by first | rfl | exact eB (by assumption)) rfl) rfl ?_;refine ad ?_;refine cZ aa ?_;refine cM ?_
  exact fun a w st_=>⟨b3,st_.to (aG aa) (fun hh=>hh)⟩
 intro b3
 refine cE (σ':=[(3,ptr b3),(2,_),(0,_)]) (aG aa) (ac (ac (aM [2] (cy fun qr cr hqr hqi=> ?_))))
 subst hqr
 refine aM [1,1,0,0,0,0] (aK (fun w hh=>fE (T:=24) (enc:=w64) hh) (ab (kPm aa aa (kPv (aF aa) aa (kPv (aC (m:=_) ma aa aa) aa (kPl eO isAgg22 aa aa aa aa (kPv (bS aa runUnderlying22 ⟨_,rfl⟩ rfl) aa (kPm aa aa (ad (aI (df (ι:=Nat×Value) [27,26,3,2,0] (fun (k,bv)=>(k≤S.b.rts.length)∧(aN bv=true)) (fun (k,bv)=>[(28,i64 k)]) (fun (k,bv)=>da 0 (bv,(S.b.rts.take k).map (fun w=>(bG S.went w).getD 0))::row b3 [i64 (1 - S.b.act),i64 (S.free - S.to_),bv] 125::row x (fu S (.slice qr S.b.rts.length cr) tsv mw) 212::da 0 (.slice qr S.b.rts.length cr,S.b.rts)::da 0 (tsv,S.todo)::bB .u64 i64 mw S.went::row b2 [i64 0,i64 0,.slice none 0 0] 125::Fr) (fun (k,bv)=>S.b.rts.length - k) (0,.slice none 0 0) (⟨Nat.zero_le _,rfl⟩) (fun a w st=>st.to ⟨rfl,trivial⟩ (fun hh=>hh)) ?_)))))))))))
 rintro⟨k,bv⟩ ⟨hk0,hbv⟩
 try simp only at hk0 hbv ⊢
 refine cE (σ':=[(28,i64 k),(27,_),(26,_),(3,_),(2,_),(0,_)]) (aG aa) (ac (ab (kPv (am aa aa aa) aa (ad (ac ?_)))))
 refine aV aa (fun h29=> ?_) (fun h29=> ?_)
 ·have hk:k<S.b.rts.length:=by simp at h29;omega
  obtain⟨bq,oq,rfl⟩:=hqi k hk
  have hvb:=hS.vb S.b.rts[k]
  refine aw (ac (aI (ac (ab (kPv (cC runUnderlying22 sizeOf24 aa aa (by omega) (by omega)) aa ?_)))))
  refine kPv (cf (v:=w64 S.b.rts[k]) isAgg24 (cP 3 aa) aa (by rw[Int.toNat_natCast,List.getElem?_map,List.getElem?_eq_getElem hk];rfl)) aa ?_
  refine kPa aa aa (ad (cQ [0,1,2,3,4,5,6,7,8,9,10,11,12] [9,10,12] [0,1] [9] [row b3 [i64 (1 - S.b.act),i64 (S.free - S.to_),bv] 125,row x (fu S (.slice (some ⟨bq,oq,none⟩) S.b.rts.length cr) tsv mw) 212,bB .u64 i64 mw S.went] Tryz.mixed (by kernel_rfl) ?_))
  refine an aa aa aa (aC (m:=_) eO aa aa) .free aa (an aa aa aa (ag isAgg22 aa aa) .free aa (aT aa aa aa (al aa) .free aa (aT aa aa aa (aF aa) .free aa (aT aa aa aa (aC (m:=_) l7 aa aa) .free aa (aT aa aa aa (ag isAgg210 aa aa) .free aa (aT aa aa aa (al aa) .free aa (aT aa aa aa ((lz runUnderlying210 runUnderlying24 zeroValue3 aa aa).eq (mE _)) .free aa (aT aa aa aa (cR runUnderlying3 runUnderlying24 aa (fk (by omega))) .free aa (aS aa aa (kPb (gA runUnderlying22 sizeOf24 zeroValue24 aa aa aa) aa fun b41=>(aM [1,0] ?_)))))))))))
  refine ad (cL (aS aa aa (cX aa (fC aa aa runUnderlying22 runUnderlying22 ⟨_,rfl⟩ sizeOf24 zeroValue24 aa (fun _=>rfl) gh aa aa (by simp;omega)) .free aa aa ?_)))
  rintro bv2 _ ⟨hbv2,rfl⟩
  refine ad (cZ aa (aT aa aa aa (aC (m:=_) eO aa aa) .free aa (aS aa aa ?_)))
  refine kPs (aO sizeOf22 aa aa (by first | rfl | assumption) rfl) rfl ?_;refine ad ?_;refine cZ aa ?_;refine cM ?_;refine aj [28,27,26,3,2,0] rfl ?_;refine ab ?_;refine kPv (aP aa aa) aa ?_;refine kPm aa aa ?_;refine ad ?_
  exact fun a w st_=>⟨(k+1,bv2),⟨by first | omega | (simp only;omega),hbv2⟩,by first | omega | (simp only;omega),st_.to (aG aa) (fun hh=>(by simp only[pW hk];exact hh))⟩
 ·have hk:¬ k<S.b.rts.length:=by simp at h29;omega
  obtain rfl:k=S.b.rts.length:=by omega
  rw[List.take_length]
  refine bJ (ac (ab (kPv (ah isAgg125 sizeOf125 aa aa) aa ?_)))
  refine kPs (aA (vs:=_) sizeOf125 aa aa aa (by first | rfl | exact eB (by assumption)) rfl) rfl ?_;refine ad ?_;refine aj [2] rfl ?_;refine au ?_
  exact qg results187 (.cellA aa isAgg125 sizeOf125 aa aa) (fun w hh=>⟨_,⟨bv,hbv,rfl,rfl⟩,(cK (S:=S) hrsv htsv ((hh.dp [1,5]).pk [1,1,1,1])).pk [1]⟩)
theorem tU(B:World)(Fr:List HP)(cap:Nat):
 ∀ w,Holds B Fr w→Calls Tryz.prog 120 [.slice none 0 cap].toArray w (aZ B Fr (.slice none 0 0)):=by
 refine ak func120 aa ntmps120 aa (ac (ab (kPa aa aa (ad (ac (ac (ab (kPm aa aa (kPv (wJ runUnderlying22 aa aa aa) aa (ad (li aa (rfl) ?_)))))))))))
 refine ac (ab (kPa aa aa (ad (au ?_))))
 exact aq results120 aa (fun w hh=>⟨rfl,hh⟩)
theorem nB(B:World)(Fr:List HP)(q:Option Addr)(cap:Nat)(xs:List Int)(hn:xs.length≤1000000)(hq:q=none→xs=[])(hr:SlR B Fr (.slice q xs.length cap) (xs.map w64)):∀ w,Holds B Fr w→Calls Tryz.prog 120 [.slice q xs.length cap].toArray w (Ret B (fun rv H'=>aN rv=true∧H'=da 0 (rv,xs)::Fr) (fun _ _=>False)):=by
 intro w hw
 cases q with
 | none=>
   have:=hq rfl
   subst this
   exact(tU B Fr cap w hw).mono fun e w' h=>by obtain⟨rfl,h⟩:=h;exact⟨_,⟨rfl,rfl⟩,fE h⟩
 | some a=>
   refine(iz B Fr (some a) xs.length cap (xs.map w64) (by simp) (by simpa using hn) (by rw[List.all_eq_true];intro v hv;obtain⟨x,_,rfl⟩:=List.mem_map.1 hv;rfl) hr w hw).mono fun e w' h=> ?_
   cases e with
   | returned v=>
     obtain⟨H',⟨bn,rest,rfl,rfl⟩,h⟩:=h
     exact⟨_,⟨rfl,rfl⟩,gB aa aa h⟩
   | panicked c=>obtain⟨_,h,_⟩:=h;exact h.elim
   | outgrown=>exact h.elim
theorem nU(B:World)(Fr:List HP)(bd:Nat)(c:Cfg)(hc:bx c)(b:Blk)(hb:fU c b)(sv:Value)(hsv:aN sv=true)(q:Option Addr)(cap:Nat)(ws:List Int)(hwn:ws.length≤1000000)(hwq:q=none→ws=[])(hwl:SlR B (da 0 (sv,b.rts)::Fr) (.slice q ws.length cap) (ws.map w64)):
 ∀ w,Holds B (da 0 (sv,b.rts)::Fr) w→Calls Tryz.prog 89 [ptr bd,dU c,lC b sv,.slice q ws.length cap].toArray w (Ret B (fun rv H'=>∃ x,rv=ptr x∧H'=eD x (ei bd c b ws)::Fr) (fun _ _=>False)):=by
 refine ak func89 aa ntmps89 aa ?_
 have hba:=hb.act
 refine ac (ab (kPb (aY aa) aa fun b5=>(kPb (aY aa) aa fun b6=>(kPa aa aa (ad (ac (ab (kPv (ah isAgg39 sizeOf39 aa aa) aa ?_))))))))
 refine kPl iy isAgg3 aa aa aa aa (kPv (fF aa aa) aa (ap aa (ar call67 aa) (jL _ _ c hc _ (by have:=hb.act;omega) (by have:=hb.act;omega)) .free aa aa ?_))
 refine kPa aa aa (ad (aj [9,8,6,5,0,3] rfl (ac (aM [1] ?_))))
 refine kV (.br [0,1,2,3,4,5,6] 7 (.fin [8,9,10,11]) 8 (.fin [7,9,10,11])) [7,8,10] [0,1,2,3,4,5,6] [7,8] [row b5 [i64 c.log,i64 c.roots,i64 c.space] 39,row b6 [i64 b.act,i64 b.used,sv] 125] [] (G:=Nat) (fun x=>[(8,ptr x)]) (fun x=>eD x (ei bd c b ws)::Fr) Tryz.mixed (by kernel_rfl) ?_ ?_
 ·skip
  refine w9 (an aa aa aa (al aa) .free aa (an aa aa aa (ah isAgg39 sizeOf39 aa aa) .free aa ?_))
  refine an aa aa aa (ah isAgg125 sizeOf125 aa aa) .free aa ?_
  refine an aa aa aa (al aa) .free aa (an aa aa aa (al aa) .free aa (an aa aa aa (al aa) .free aa (an aa aa aa (al aa) .free aa (cM ?_))))
  refine p8 aa aa ?_ ?_
  ·skip
   refine aE aa (ar call120 aa) (nB _ _ q cap ws hwn hwq hwl.up) .free aa aa ?_
   rintro tsv _ ⟨htsv,rfl⟩
   refine ad (ul (jV (aS aa aa (kPb (dP .u64 i64) aa fun mw=>(ad (cL ?_))))))
   refine aT aa aa aa (aR aa (fR _ _ _ _ _ _ _ _ _ _ _ _ (by first | rfl | assumption) rfl rfl rfl (by first | rfl | assumption) (by first | rfl | assumption))) .free rfl ?_;refine aS aa aa ?_;refine kPb (aY aa) aa fun b25=> ?_;refine ad ?_;refine cZ aa ?_
   refine aT aa aa aa (bE aa) .free aa (cM ?_)
   exact fun a w st_=>⟨b25,st_.to ⟨rfl,trivial⟩ (fun hh=>(cK (S:=ei bd c b ws) hsv htsv ((hh.dp [3,3]).pk [0,2,1])))⟩
  ·skip
   refine kPb (dP .u64 i64) aa fun mw=>(ad (ul (jV (aS aa aa (aE aa (ar call120 aa) (nB _ _ q cap ws hwn hwq hwl.up) .free aa aa ?_)))))
   rintro tsv _ ⟨htsv,rfl⟩
   refine ad (cL ?_)
   refine aT aa aa aa (aR aa (fR _ _ _ _ _ _ _ _ _ _ _ _ (by first | rfl | assumption) rfl rfl rfl (by first | rfl | assumption) (by first | rfl | assumption))) .free rfl ?_;refine aS aa aa ?_;refine kPb (aY aa) aa fun b25=> ?_;refine ad ?_;refine cZ aa ?_;refine aT aa aa aa (bE aa) .free aa ?_;refine cM ?_
   exact fun a w st_=>⟨b25,st_.to ⟨rfl,trivial⟩ (fun hh=>(cK (S:=ei bd c b ws) hsv htsv ((hh.dp [3,3]).pk [0,2])))⟩
 intro x
 refine cE (σ':=[(8,ptr x)]) ⟨rfl,trivial⟩ (au ?_)
 exact aq results89 aa (fun w hh=>⟨_,⟨_,rfl,rfl⟩,hh⟩)
def u3:List Value:=zN.flatMap fun p=>[str p.1,i64 p.2]
theorem mO:∀ k,k<18→(u3.drop (k*2)).take 2=[str (fw k),i64 (fm k)]:=by
 intro k hk
 obtain rfl | rfl | rfl | rfl | rfl | rfl | rfl | rfl | rfl | rfl | rfl | rfl | rfl | rfl | rfl | rfl | rfl | rfl:k=0∨k=1∨k=2∨k=3∨k=4∨k=5∨k=6∨k=7∨k=8∨k=9∨k=10∨k=11∨k=12∨k=13∨k=14∨k=15∨k=16∨k=17:=by omega
 all_goals rfl
def FG(B:World):Prop:=vy B (some ⟨0,0,none⟩) 1 36 (fun _=>u3)
section
variable {B:World} {σ:Env} {H:List HP} {P:Program} {d:Option Tmp} {ty:TypeId} {p:String} {af:Array Edge} {g:Option (Nat×Bool)}
theorem BI{t e m len:Nat}{x y:Operand}{k:IntKind}{i:Int}{cs c:List Value}(ht:∀ w,(underlying t).run P w= .ok (.array len e) w)(ha:∀ w,(isAgg e).run P w= .ok true w)(hs:∀ w,(sizeOf e).run P w= .ok m w)(hx:evO σ x=some (.agg cs.toArray))(hy:evO σ y=some (.int k i))(h0:0≤i∧i<len)(hc:(cs.drop (i.toNat*m)).take m=c):
 Evs P B σ H ⟨d,.index t x y,ty,p,af,g⟩ (.agg c.toArray):=by
 subst hc
 intro a w kn _
 simp only[execOp,kn.eval hx,kn.eval hy]
 simp[Instr.index,asIntOf,ht,h0.1,h0.2,part,ha,hs,List.extract_eq_take_drop]
theorem z7{t b m:Nat}{x:Operand}{cs:List Value}(ht:∀ w,(isAgg t).run P w= .ok true w)(hs:∀ w,(sizeOf t).run P w= .ok m w)[cF H B](hr:vy B (some ⟨b,0,none⟩) 1 m (fun _=>cs))(hx:evO σ x=some (.pointer (some ⟨b,0,none⟩))):
 Evs P B σ H ⟨d,.load t x,ty,p,af,g⟩ (.agg cs.toArray):=
 mj (i:=0) (k:=1) (cap:=1) ht hs (SlN.arg hr) (by rw[hx,Nat.zero_mul]) rfl
def isE:Value→Bool
 | .nilIface=>false
 | _=>true
theorem wH{x:Operand}{t u:TypeId}{ms:Array (String×TypeId)}{v:Value}(ht:∀ w,(underlying t).run P w= .ok (.interface ms) w)(hx:evO σ x=some v)(hv:v= .nilIface∨∃ u x,v= .iface u x):
 Evs P B σ H ⟨d,.binOp .neq t x (.const .nilIface) u,ty,p,af,g⟩ (.bool (isE v)):=(mh ht hx hv).eq (by rcases hv with rfl | ⟨_,_,rfl⟩<;>rfl)
theorem C2{t e b off n cap:Nat}{x lo:Operand}{kk:IntKind}(ht:∀ w,(underlying t).run P w= .ok (.slice e) w)(hs:∀ w,(sizeOf e).run P w= .ok 1 w)(hx:evO σ x=some (.slice (some ⟨b,off,none⟩) n cap))(hl:evO σ lo=some (.int kk 1))(h1:1≤n)(h2:n≤cap):
 Evs P B σ H ⟨d,.slice t x (some lo) none none,ty,p,af,g⟩ (.slice (some ⟨b,if cap=1 then off else off+1,none⟩) (n - 1) (cap - 1)):=by
 by_cases hc:cap=1
 ·subst hc
  obtain rfl:n=1:=by omega
  rw[if_pos rfl]
  exact jP ht hs hx hl
 ·rw[if_neg hc]
  exact kC ht hs hx (.yesi hl aa) .no h1 h2 (.inl (by omega)) (by rw[Nat.one_mul])
theorem yw{q:Option Addr}{T cap:Nat}{l:List (List UInt8)}(i:Nat)(e:H[i]? =some (q7 T (.slice q l.length cap) l)):SlR B H (.slice q l.length cap) (l.map str):=by
 have h:=yn (B:=B) Cp i e
 rw[pu] at h
 refine⟨q,cap,by simp,fun w hw j hj=> ?_⟩
 rcases fI (hw.front i e) with ⟨h1,_,_⟩ | ⟨bd,pre,rest,k,_,h1,h2⟩
 ·rw[h1] at hj;exact absurd hj (Nat.not_lt_zero _)
 ·injection h1 with h1 _ _
  refine⟨bd,pre.length,h1,?_⟩
  have h3:=h2.cell 0 rfl (pre.length+j)
  rw[h3,pu,List.append_assoc,List.getElem?_append_right (by omega),Nat.add_sub_cancel_left,List.getElem?_append_left hj]
theorem Bn{n:Nat}{D:List Deferred}{K:Act→World→Prop}{T:Nat}{sv:Value}{l:List (List UInt8)}(h:∀ q cap,sv= .slice q l.length cap→l.length≤cap→(0<l.length→∃ b off,q=some ⟨b,off,none⟩)→GO B n D σ (q7 T sv l::H) K):GO B n D σ (q7 T sv l::H) K:=fun a w st=>by
 rcases fI st.holds with ⟨e1,e2,_⟩ | ⟨bd,pre,rest,k,_,e,_⟩
 ·exact h none 0 (by rw[e2,e1];rfl) (by rw[e1];exact Nat.le_refl _) (fun hi=>by rw[e1] at hi;exact absurd hi (Nat.not_lt_zero _)) a w st
 ·exact h _ _ e (by omega) (fun hi=>⟨_,_,rfl⟩) a w st
end
theorem oT(s:List UInt8)(t:List (List UInt8)):jb (s::t)=match num s with
 | none=>none
 | some n=>(jb t).map fun l=>(n:Int)::l:=rfl
theorem qm{ns:List Int}{s:List UInt8}{t:List (List UInt8)}(h:num s=none):(jb (s::t)).map (ns++ ·)=none:=by rw[oT,h];rfl
theorem zb{ns:List Int}{s:List UInt8}{t:List (List UInt8)}{u:Nat}(h:num s=some u):(jb (s::t)).map (ns++ ·)=(jb t).map ((ns++[(u:Int)])++ ·):=by
 rw[oT,h]
 simp only[Option.map_map]
 congr 1
 funext l
 simp
theorem xF{ws:List (List UInt8)}(h:ls (ws.getD 0 [])=none):di ws=((0,[]),12):=by unfold di;rw[h]
theorem xG{ws:List (List UInt8)}{k:Nat}(h:ls (ws.getD 0 [])=some (k,fm k))(hl:ws.length≠fm k+1):di ws=((0,[]),13):=by unfold di;rw[h];simp only[if_pos hl]
theorem ta{ws:List (List UInt8)}{k:Nat}(h:ls (ws.getD 0 [])=some (k,fm k))(hl:ws.length=fm k+1)(hn:jb (ws.drop 1)=none):di ws=((0,[]),13):=by
 unfold di;rw[h];simp only[ne_eq,not_true,if_false,hl,hn]
theorem vX{ws:List (List UInt8)}{k:Nat}{ns:List Int}(h:ls (ws.getD 0 [])=some (k,fm k))(hl:ws.length=fm k+1)(hn:jb (ws.drop 1)=some ns):di ws=((((k:Nat):Int),ns),0):=by
 unfold di;rw[h];simp only[ne_eq,not_true,if_false,hl,hn]
theorem sf{ws:List (List UInt8)}{i:Nat}(h:i<ws.length):(ws.map str)[i]? =some (str (ws.getD i [])):=by
 simp[h,List.getD]
theorem mT{ws:List (List UInt8)}{i:Nat}(h:i<ws.length):ws.drop i=ws.getD i []::ws.drop (i+1):=by
 rw[List.drop_eq_getElem_cons h];simp[h,List.getD]
theorem zn(B:World)(Fr:List HP)[cF Fr B](gl:GL B)(fg:FG B)(ws:List (List UInt8))(h0:0<ws.length)(hwn:ws.length≤1000000)(hwl:∀ i,(ws.getD i []).length≤1000000)(b off cap:Nat)(hcap:ws.length≤cap)(hr:SlR B Fr (.slice (some ⟨b,off,none⟩) ws.length cap) (ws.map str)):
 ∀ w,Holds B Fr w→Calls Tryz.prog 166 [.slice (some ⟨b,off,none⟩) ws.length cap].toArray w (Ret B (fun v H'=>∃ sv,aN sv=true∧v= .tuple #[.agg #[i64 (di ws).1.1,sv],i64 (di ws).2]∧H'=da 0 (sv,(di ws).1.2)::Fr) (fun _ _=>False)):=by
 refine ak func166 aa ntmps166 aa (ac (ab (kPb (aD zeroValue33 aa) aa fun b2=>(kPa aa aa (ad (ac (ac (ab (kPv (z7 isAgg235 sizeOf235 fg aa) aa (kPm aa aa (ad ?_)))))))))))
 refine aI (df (ι:=Nat) [11,3,2,0] (fun k=>(k≤18)∧(ls (ws.getD 0 [])=km (ws.getD 0 []) (18 - k) k)) (fun k=>[(12,i64 k)]) (fun k=>row b2 [i64 0,.slice none 0 0] 33::Fr) (fun k=>18 - k) (0) (⟨Nat.zero_le _,rfl⟩) (fun a w st=>st.to ⟨rfl,trivial⟩ (fun hh=>hh)) ?_)
 rintro k ⟨hk0,hko⟩
 try simp only at hk0 hko ⊢
 refine cE (σ':=[(12,i64 k),(11,_),(3,_),(2,_),(0,_)]) (aG aa) (ac (ab (kPv (am aa aa aa) aa (ad (ac ?_)))))
 refine aV aa (fun h13=> ?_) (fun h13=> ?_)
 ·have hk:k<18:=by simp at h13;omega
  have hfm:=DK k hk
  refine aw (ac (aI (ac (ab (kPm aa aa (kPv (BI (c:=[str (fw k),i64 (fm k)]) runUnderlying235 isAgg234 sizeOf234 aa aa (by omega) (by rw[Int.toNat_natCast];exact mO k hk)) aa (kPb (aD zeroValue234 aa) aa fun b5=>(kPa aa aa ?_))))))))
  refine kPs (aA (vs:=_) sizeOf234 aa aa aa (by first | rfl | exact eB (by assumption)) rfl) rfl ?_;refine ad ?_;refine ac ?_;refine ac ?_;refine cN Tryz.mixed (by kernel_rfl) (by kernel_rfl) ?_;refine kQm aa aa ?_;refine kQv (cC runUnderlying230 sizeOf9 aa aa (by omega) (by omega)) aa ?_
  refine kQv (cf (v:=str (ws.getD 0 [])) isAgg9 hr.up aa (sf h0)) aa (kQv (aC (m:=_) tG aa aa) aa (kQv (ag isAgg9 aa aa) aa (kQv (py aa aa aa) aa (bM (aj [21,4,5,12,11,3,2,0] rfl ?_)))))
  refine aV aa (fun h21=> ?_) (fun h21=> ?_)
  ·have hne:¬ fw k=ws.getD 0 []:=fun e=>by simp[e] at h21
   refine bJ (ab (kPv (aP aa aa) aa (kPm aa aa (ad ?_))))
   exact fun a w st_=>⟨k+1,⟨by first | omega | (simp only;omega),by rw[hko,show 18 - k=18 - (k+1)+1 by omega,km,if_neg hne]⟩,by first | omega | (simp only;omega),st_.to (aG aa) (fun hh=>(hh.dp [0]))⟩
  ·have heq:fw k=ws.getD 0 []:=by
    have h9:ws.getD 0 []=fw k:=by simpa using h21
    exact h9.symm
   have hkind:ls (ws.getD 0 [])=some (k,fm k):=by rw[hko,show 18 - k=17 - k+1 by omega,km,if_pos heq]
   refine aw (ac (ac (ab (kPm aa aa (kPv (bS aa runUnderlying230 ⟨_,rfl⟩ rfl) aa (kPl zT isAgg3 aa aa aa aa (kPv (aP aa aa) aa (kPv (am aa aa aa) aa (ad (aj [27,4,12,11,3,2,0] rfl ?_))))))))))
   refine aV aa (fun h27=> ?_) (fun h27=> ?_)
   ·have hln:ws.length≠fm k+1:=by simp at h27;omega
    have hres:di ws=((0,[]),13):=xG hkind hln
    refine ac (ab (kPv (aR aa (rT)) aa ?_))
    refine kPs (aA (vs:=_) sizeOf33 aa aa aa (by first | rfl | exact eB (by assumption)) rfl) rfl ?_;refine kPa aa aa ?_;refine ad ?_;refine au ?_
    exact fY results166 (.cellA aa isAgg33 sizeOf33 aa aa) (.tmp aa) (fun w hh=>⟨_,⟨.slice none 0 0,rfl,by rw[hres];rfl,rfl⟩,by rw[hres];exact fE ((hh.dp [0,0]))⟩)
   ·have hln:ws.length=fm k+1:=by simp at h27;omega
    refine aw (ac (ab (kPm aa aa (kPv (aR aa (tZ _ aa)) aa (kPb (aD zeroValue33 aa) aa fun b6=> ?_)))))
    refine kPs (aA (vs:=_) sizeOf33 aa aa aa (by first | rfl | exact eB (by assumption)) rfl) rfl ?_;refine ad ?_;refine ac ?_;refine ac ?_;refine aK (fun w hh=>fE (T:=24) (enc:=w64) hh) ?_;refine ab ?_;refine kPm aa aa ?_
    refine kPv (C2 runUnderlying230 sizeOf9 aa aa h0 hcap) aa (kPv (bS aa runUnderlying230 ⟨_,rfl⟩ rfl) aa (kPm aa aa (ad (aI (df (ι:=Nat×List Int×Value) [33,32,6,12,11,3,2,0] (fun (i,ns,nv)=>(i≤ws.length - 1)∧(jb (ws.drop 1)=(jb (ws.drop (i+1))).map (ns++ ·))∧(ns.length=i)∧(aN nv=true)) (fun (i,ns,nv)=>[(34,i64 i)]) (fun (i,ns,nv)=>da 0 (nv,ns)::row b6 [i64 k,nv] 33::row b5 [str (fw k),i64 (fm k)] 234::row b2 [i64 0,.slice none 0 0] 33::Fr) (fun (i,ns,nv)=>ws.length - i) (0,[],.slice none 0 0) (⟨Nat.zero_le _,by simp,rfl,rfl⟩) (fun a w st=>st.to ⟨rfl,trivial⟩ (fun hh=>hh)) ?_)))))
    rintro⟨i,ns,nv⟩ ⟨hi0,hns,hnl,hnv⟩
    try simp only at hi0 hns hnl hnv ⊢
    refine cE (σ':=[(34,i64 i),(33,_),(32,_),(6,_),(12,_),(11,_),(3,_),(2,_),(0,_)]) (aG aa) (ac (ab (kPv (am aa aa aa) aa (ad (ac ?_)))))
    refine aV aa (fun h35=> ?_) (fun h35=> ?_)
    ·have hi:i<ws.length - 1:=by simp at h35;omega
     refine aw (ac (aI (ac (ab (kPv ((cC runUnderlying230 sizeOf9 aa aa (by omega) (by omega)).eq (show _=Value.pointer (some ⟨b,off+(i+1),none⟩) by rw[if_neg (by omega),Int.toNat_natCast,Nat.add_assoc,Nat.add_comm 1])) aa (kPv (cf (v:=str (ws.getD (i+1) [])) isAgg9 hr.up aa (sf (by omega))) aa (kPa aa aa (ad (ac (ab (kPm aa aa ?_)))))))))))
     refine aE aa (ar call198 aa) (yZ gl (ws.getD (i+1) []) (hwl _)) .free aa aa ?_
     rintro _ _ ⟨rfl,n9,e9,rfl,hor⟩
     have hev:e9= .nilIface∨∃ u x,e9= .iface u x:=by
      rcases hor with ⟨u,_,_,h⟩ | ⟨_,t,x,h⟩
      ·exact .inl h
      ·exact .inr ⟨_,_,h⟩
     refine kPm aa aa (kPv (az aa aa) aa (kPv (az aa aa) aa (kPa aa aa (kPa aa aa (ad (aj [10,9,8,34,33,32,6,12,11,3,2,0] rfl (ac (ac ?_))))))))
     rcases Bool.eq_false_or_eq_true ((isE e9)) with hs12 | hs12
     ·skip
      have hnum:num (ws.getD (i+1) [])=none:=by
       rcases hor with ⟨u,_,_,h⟩ | ⟨h,_⟩
       ·rw[h] at hs12;cases hs12
       ·exact A6 h
      have hres:di ws=((0,[]),13):=ta hkind hln (by rw[hns,mT (by omega)];exact qm hnum)
      refine ab (kPm aa aa (kPv (wH runUnderlying246 aa hev) aa (kPm aa aa (ay aa (.on aa aa (ai hs12)) aa (ay aa (.on aa aa (ai hs12)) aa (ay aa (.on aa aa (ai hs12)) aa (ay aa (.on aa aa (ai hs12)) aa (kPv (aB aa hs12 aa) aa (ad (aj [50,9,34,33,32,6,12,11,3,2,0] rfl (li aa (rfl) ?_)))))))))))
      refine ac (ab (kPv (aR aa (rT)) aa ?_))
      refine kPs (aA (vs:=_) sizeOf33 aa aa aa (by first | rfl | exact eB (by assumption)) rfl) rfl ?_;refine kPa aa aa ?_;refine ad ?_;refine au ?_
      exact fY results166 (.cellA aa isAgg33 sizeOf33 aa aa) (.tmp aa) (fun w hh=>⟨_,⟨.slice none 0 0,rfl,by rw[hres];rfl,rfl⟩,by rw[hres];exact fE ((hh.dp [0,0,0,0]))⟩)
     ·skip
      obtain⟨u,hpu,rfl,rfl⟩:∃ u:Nat,Lib.parseUintB 64 (ws.getD (i+1) [])= .ok u∧n9=u∧e9= .nilIface:=by
       rcases hor with h | ⟨_,t,x,h⟩
       ·exact h
       ·rw[h] at hs12;cases hs12
      clear hor
      refine ab (kPm aa aa (kPv (wH runUnderlying246 aa hev) aa (kPm aa aa (ao aa (al aa) (.on aa aa (ae hs12)) aa aa (ap aa (ar call26 aa) (tx _ _ gl u (y6 hpu)) (.on aa aa (ae hs12)) aa aa ?_)))))
      refine ao aa (al aa) (.on aa aa (ae hs12)) aa aa (ao aa (py aa aa aa) (.on aa aa (ae hs12)) aa aa (kPv (aJ aa hs12 aa) aa (ad (aj [50,9,34,33,32,6,12,11,3,2,0] rfl ?_))))
      refine aV aa (fun h50=> ?_) (fun h50=> ?_)
      ·have hnum:num (ws.getD (i+1) [])=none:=by rw[zc hpu,if_neg (by simpa using h50)]
       have hres:di ws=((0,[]),13):=ta hkind hln (by rw[hns,mT (by omega)];exact qm hnum)
       refine ac (ab (kPv (aR aa (rT)) aa ?_))
       refine kPs (aA (vs:=_) sizeOf33 aa aa aa (by first | rfl | exact eB (by assumption)) rfl) rfl ?_;refine kPa aa aa ?_;refine ad ?_;refine au ?_
       exact fY results166 (.cellA aa isAgg33 sizeOf33 aa aa) (.tmp aa) (fun w hh=>⟨_,⟨.slice none 0 0,rfl,by rw[hres];rfl,rfl⟩,by rw[hres];exact fE ((hh.dp [0,0,0,0]))⟩)
      ·have hnum:num (ws.getD (i+1) [])=some u:=by rw[zc hpu,if_pos (by simpa using h50)]
       refine aw (ab (kPl iL isAgg22 aa aa aa aa (kPm aa aa (kPb (gA runUnderlying22 sizeOf24 zeroValue24 aa aa aa) aa fun b55=>(aM [1,0] (cX aa (fC aa aa runUnderlying22 runUnderlying22 ⟨_,rfl⟩ sizeOf24 zeroValue24 aa (fun _=>rfl) gh aa aa (by omega)) .free aa aa ?_))))))
       rintro nv9 _ ⟨hnv9,rfl⟩
       refine kPv (aC (m:=_) iL aa aa) aa ?_
       refine kPs (aO sizeOf22 aa aa (by first | rfl | assumption) rfl) rfl ?_;refine ad ?_;refine aj [34,33,32,6,12,11,3,2,0] rfl ?_;refine ab ?_;refine kPv (aP aa aa) aa ?_;refine kPm aa aa ?_;refine ad ?_
       exact fun a w st_=>⟨(i+1,ns++[(u:Int)],nv9),⟨by first | omega | (simp only;omega),by rw[hns,mT (by omega),zb hnum],by simp[hnl],hnv9⟩,by first | omega | (simp only;omega),st_.to (aG aa) (fun hh=>hh)⟩
    ·have hi:i=ws.length - 1:=by simp at h35;omega
     have hres:di ws=((((k:Nat):Int),ns),0):=vX hkind hln (by rw[hns,List.drop_eq_nil_of_le (by omega)];simp[jb])
     refine bJ (ac (ab (kPv (ah isAgg33 sizeOf33 aa aa) aa ?_)))
     refine kPs (aA (vs:=[i64 k,nv]) sizeOf33 aa aa aa (show([i64 k,nv]:List Value).all aN=true by simp only[List.all_cons,List.all_nil,hnv];rfl) aa) aa (kPa aa aa (ad (au ?_)))
     exact fY results166 (.cellA aa isAgg33 sizeOf33 aa aa) (.tmp aa) (fun w hh=>⟨_,⟨nv,hnv,by rw[hres];rfl,by rw[hres]⟩,(hh.dp [1,1,1])⟩)
 ·have hk:k=18:=by simp at h13;omega
  subst hk
  have hres:di ws=((0,[]),12):=xF hko
  refine bJ (ac (ab (kPv (aR aa (rT)) aa ?_)))
  refine kPs (aA (vs:=_) sizeOf33 aa aa aa (by first | rfl | exact eB (by assumption)) rfl) rfl ?_;refine kPa aa aa ?_;refine ad ?_;refine au ?_
  exact fY results166 (.cellA aa isAgg33 sizeOf33 aa aa) (.tmp aa) (fun w hh=>⟨_,⟨.slice none 0 0,rfl,by rw[hres];rfl,rfl⟩,by rw[hres];exact fE ((hh.dp [0]))⟩)
theorem B4{B:World}{H:List HP}{q:Option Addr}{n cap:Nat}{cs:List Value}(h:SlR B H (.slice q n cap) cs){w:World}(hw:Holds B H w):∀ i,i<cs.length→∃ b off,q=some ⟨b,off,none⟩:=fun i hi=>by
 obtain⟨q',c',e1,e2⟩:=h.ex
 injection e1 with e3 _ _
 subst e3
 obtain⟨b,off,e,_⟩:=e2 w hw i hi
 exact⟨b,off,e⟩
def o7(c:Cmd):List UInt8:=if c.1<0∨18≤c.1 then [63] else c.2.foldl (fun l n=>l++([32]++Lib.decDigits n.toNat)) (fw c.1.toNat)
theorem CW:∀ k,k<18→(fw k).length≤7:=by decide
theorem By{B:World}(fg:FG B){k:Nat}(hk:k<18):B.cell? ⟨0,k*2,none⟩=some (str (fw k)):=by
 obtain⟨b,off,e,_,h⟩:=fg.cell 0 (by decide)
 injection e with e
 injection e with e1 e2
 subst e1;subst e2
 have h2:=h (k*2) (by omega)
 have h3:=mO k hk
 have h4:u3[k*2]? =some (str (fw k)):=by
  have:=congrArg (fun l=>l[0]?) h3
  simpa using this
 rw[show 0+(0*36+k*2)=k*2 by omega,h4] at h2
 exact h2
theorem w7{α β:Type}{f:β→α→β}{a:β}{l:List α}{k:Nat}(h:k<l.length):(l.take (k+1)).foldl f a=f ((l.take k).foldl f a) l[k]:=by
 rw[List.take_succ_eq_append_getElem h,List.foldl_append];rfl
theorem qN(B:World)(Fr:List HP)[cF Fr B](gl:GL B){n:Int}(h:0≤n∧n<18446744073709551616):∀ w,Holds B Fr w→Calls Tryz.prog 26 [w64 n,i64 10].toArray w (aZ B Fr (str (Lib.decDigits n.toNat))):=by
 obtain⟨u,rfl⟩:=Int.eq_ofNat_of_zero_le h.1
 exact tx B Fr gl u (by omega)
theorem yH{xs:List Int}{k:Nat}(hk:k<xs.length):(xs.map w64)[k]? =some (w64 xs[k]):=by simp[hk]
theorem An(B:World)(Fr:List HP)[cF Fr B](gl:GL B)(fg:FG B)(kd:Int)(q:Option Addr)(cap:Nat)(ns:List Int)(hn:ns.length≤1000)(hnb:∀ n∈ns,0≤n∧n<18446744073709551616)(hr:SlR B Fr (.slice q ns.length cap) (ns.map w64))(hq:∀ i,i<ns.length→∃ b off,q=some ⟨b,off,none⟩):
 ∀ w,Holds B Fr w→Calls Tryz.prog 119 [.agg #[i64 kd,.slice q ns.length cap]].toArray w (aZ B Fr (str (o7 (kd,ns)))):=by
 refine ak func119 aa ntmps119 aa (ac (ab (kPb (aY aa) aa fun b1=>(kPa aa aa (ad (ac (ac (ab (kPl jO isAgg31 aa aa aa aa (kPv (am aa aa aa) aa (kPm aa aa ?_)))))))))))
 apply gJ (tp:=13) (t:=9) (σ1:=[(9,_),(2,_),(1,_)]) 4 rfl (aG rfl)
 ·intro hg1
  refine ao aa (aC (m:=_) jO aa aa) (.on aa aa (ae hg1)) aa aa (ao aa (ag isAgg31 aa aa) (.on aa aa (ae hg1)) aa aa (ao aa (am aa aa aa) (.on aa aa (ae hg1)) aa aa (kPv (aJ aa hg1 aa) aa ?_)))
  exact bf aa (aG aa) (ga hg1)
 ·intro hg1
  refine ay aa (.on aa aa (ai hg1)) aa (ay aa (.on aa aa (ai hg1)) aa (ay aa (.on aa aa (ai hg1)) aa (kPv (aB aa hg1 aa) aa ?_)))
  exact bf aa (aG aa) (f9 hg1)
 refine ad ?_
 refine aV aa (fun h13=> ?_) (fun h13=> ?_)
 ·have hbad:kd<0∨18≤kd:=by simpa using h13
  have hres:o7 (kd,ns)=[63]:=by unfold o7;rw[if_pos hbad]
  refine ac (ab (kPa aa aa (ad (au ?_))))
  exact aq results119 aa (fun w hw=>⟨by rw[hres],(hw.dp [0])⟩)
 ·have hok:¬ (kd<0∨18≤kd):=by intro h;simp at h13;omega
  have hk18:kd.toNat<18:=by omega
  have hres:o7 (kd,ns)=ns.foldl (fun l n=>l++([32]++Lib.decDigits n.toNat)) (fw kd.toNat):=by unfold o7;rw[if_neg hok]
  have hf0:=CW kd.toNat hk18
  refine aw (ac (ab (kPl jO isAgg31 aa aa aa aa (kPv (mS (m:=kd.toNat*2) runUnderlying235 sizeOf234 aa aa (by omega) (by omega) (by omega)) aa (kPv (aC (m:=_) tG aa aa) aa (kPv (z6 isAgg9 aa (By fg hk18)) aa (kPa aa aa (ad (aj [3,2,1] rfl (ac (ac ?_)))))))))))
  refine ab (kPl iL isAgg22 aa aa aa aa (kPv (bS aa runUnderlying22 ⟨_,rfl⟩ rfl) aa (kPm aa aa (ad (aI (df (ι:=Nat×List UInt8) [21,20,2] (fun (k,o)=>(k≤ns.length)∧(o=((ns.take k).foldl (fun l n=>l++([32]++Lib.decDigits n.toNat)) (fw kd.toNat)))∧(o.length≤7+k*21)) (fun (k,o)=>[(22,i64 k),(3,str o)]) (fun (k,o)=>row b1 [i64 kd,.slice q ns.length cap] 33::Fr) (fun (k,o)=>ns.length - k) (0,fw kd.toNat) (⟨Nat.zero_le _,by simp,by omega⟩) (fun a w st=>st.to ⟨rfl,rfl,trivial⟩ (fun hh=>hh)) ?_))))))
  rintro⟨k,o⟩ ⟨hk0,ho,hol⟩
  try simp only at hk0 ho hol ⊢
  refine cE (σ':=[(22,i64 k),(3,str o),(21,_),(20,_),(2,_)]) (aG aa) (ac (ab (kPv (am aa aa aa) aa (ad (ac ?_)))))
  refine aV aa (fun h23=> ?_) (fun h23=> ?_)
  ·have hk:k<ns.length:=by simp at h23;omega
   obtain⟨bq,oq,rfl⟩:=hq k hk
   have hd20:=pC (ns[k]).toNat (by have:=hnb _ (List.getElem_mem hk);omega)
   refine aw (ac (aI (ac (ab (kPv (cC runUnderlying22 sizeOf24 aa aa (by omega) (by omega)) aa (kPv (cf (v:=w64 ns[k]) isAgg24 hr.up aa (by rw[Int.toNat_natCast];exact yH hk)) aa (kPa aa aa (ad (ab (kPm aa aa (kPm aa aa ?_)))))))))))
   refine ap aa (ar call26 aa) (qN B _ gl (hnb _ (List.getElem_mem hk))) .free aa aa ?_
   refine ao aa (eZ aa aa (by first | omega | (simp only[List.length_append,List.length_cons,List.length_nil];omega))) .free aa aa ?_
   refine ao aa (eZ aa aa (by first | omega | (simp only[List.length_append,List.length_cons,List.length_nil];omega))) .free aa aa ?_
   refine kPa aa aa (ad (aj [3,22,21,20,2] rfl (ab (kPv (aP aa aa) aa (kPm aa aa (ad ?_))))))
   exact fun a w st_=>⟨(k+1,o++([32]++Lib.decDigits (ns[k]).toNat)),⟨by first | omega | (simp only;omega),by rw[w7 hk,ho],by simp only[List.length_append,List.length_cons,List.length_nil];omega⟩,by first | omega | (simp only;omega),st_.to (aG aa) (fun hh=>hh)⟩
  ·have hk:k=ns.length:=by simp at h23;omega
   refine bJ (ac (ab (kPm aa aa (kPa aa aa (ad (au ?_))))))
   exact aq results119 aa (fun w hw=>⟨by rw[hres,ho,hk,List.take_length],(hw.dp [0])⟩)
structure Nd where
 wd:Int
 rf:Int
 names:List (Option Nat)
 nums:List Int
 nv:Value
 vv:Value
inductive Un where
 | used (c1 c2:Nat) (was:Int)
 | num (c1 c2 c3 n:Nat) (i was:Int)
 | name (c1 c2 c3 n:Nat) (i:Int) (was:Option Nat)
 | root (c1 c2 c3:Nat) (i:Int) (was:Option Nat)
structure Md where
 c:Cfg
 roots:List (Option Nat)
 used:Int
 hs:List (Option Nat)
 o:Bool
 seen:List (Option Nat×Int)
 fresh:List (Option Nat)
 undo:List Un
 left:Int
 thn:Int
 ids:List Nat
 g:Nat→Nd
section
variable {B:World} {n:Nat} {D:List Deferred} {σ:Env} {H Fr:List HP} {P:Program} {K:Act→World→Prop} {bm b:Nat} {M:Md} {x:Nd} {ids:List Nat} {g:Nat→Nd} {w:World} {rv hv sv fv uv:Value} {us us':List Un} {u:Un}
section
variable {d:Option Tmp} {ty:TypeId} {p:String} {af:Array Edge} {gd:Option (Nat×Bool)}
end
theorem lS{f:FuncId}{vs:Array Value}{v:Value}{H H1:List HP}(is js:List Nat)[mt is H H1][mt js H1 H](h:∀ w,Holds B H1 w→Calls P f vs w (aZ B H1 v)):∀ w,Holds B H w→Calls P f vs w (aZ B H v):=
 fun w hw=>(h w (hw.pk is)).mono fun _ _ ⟨h1,h2⟩=>⟨h1,h2.pk js⟩
end
def cl(n l:Int):Int:=if (if l<n then l else n)<0 then 0 else if l<n then l else n
def Cw(b:Nat)(cs:List Value)(T:TypeId):HP:=hex fun (x:Value×Value)=>row b (cs++[x.1,x.2]) T
instance Dr {b:Nat} {a0 a1 a2 a3 a4 a5 a6 a7 a8 a9 l t:Value} {T:TypeId} {L:List HP}:m7 (row b [a0,a1,a2,a3,a4,a5,a6,a7,a8,a9,l,t] T::L) [Cw b [a0,a1,a2,a3,a4,a5,a6,a7,a8,a9] T]:=
 ⟨fun k a=>wk (l,t) (fz (fun _ _=>trivial) a)⟩
instance Dq {b:Nat} {cs:List Value} {A:HP} {T:TypeId} {L:List HP} [s:m7 L [Cw b cs T]]:m7 (A::L) [Cw b cs T]:=⟨fun k a=>s.sub k (gH a)⟩
def hsk(f:Option Nat→Option Nat)(l:List (Option Nat))(k:Nat):List (Option Nat):=(l.take k).map f++l.drop k
abbrev fy(i v:Int)(s:Dev)(S:bD):Out (Int×bD):=S.store s i v
def bD.fresh(S:bD)(f t:Int):bD:={S with ff:=f,ft:=t,seen:=[],dirty:=[]}
def iJ(c:Cfg)(b:Blk)(S:bD)(s:Dev):Out (Int×bD):=
 (lk fy c b s (S.fresh 0 0)).then fun x s1=>if x.1≠0 then (x.2.abort s1).then fun S2 s2=> .ok (x.1,S2) s2
  else (x.2.commit s1).then fun S2 s2=> .ok (0,S2) s2
def eS(bd:Nat)(c:Cfg)(S:bD)(s:Dev)(ws:List Int):Out (Option bC×Int×bD):=
 if (s.block c).2≠0 then .ok (none,(s.block c).2,S) s
 else ((ei bd c (s.block c).1 ((s.block c).1.rts++ws)).run s).then fun X s1=>(iJ c X.block S s1).then fun x s2=>
  if x.1≠0 then .ok (none,x.1,x.2) s2 else .ok (some X,0,x.2) s2
theorem mX{s:Dev}{c:Cfg}(hc:bx c)(h:(s.block c).2=0):0<(s.block c).1.rts.length:=by
 have:=hc.r1
 unfold Dev.block at h ⊢
 split at h
 ·cases h
 ·rename_i h1;rw[if_neg h1];simp only[aW];omega
theorem oX{α:Type}(l:List (Int×α))(k:Int)(a:α):(mset l k a).length≤l.length+1:=by
 induction l with
 | nil=>simp[mset]
 | cons p t ih=>unfold mset;split<;>simp<;>omega
theorem rh{S S':bD}{s s':Dev}{i v a:Int}(e:S.store s i v= .ok (a,S') s'):S'.dirty.length≤S.dirty.length+1:=by
 have h1:=oX S.dirty (i / 8) ()
 unfold bD.store at e
 split at e
 ·cases e;omega
 ·split at e
  ·obtain⟨x,t,e1,e⟩:=aL e
   split at e
   ·cases e;simp only;omega
   ·obtain⟨y,u,e2,e⟩:=aL e
    cases e;exact h1
  ·obtain⟨y,u,e2,e⟩:=aL e
   cases e;exact h1
theorem jo:∀ (l:List Int) (i:Int) (S S':bD) (s s':Dev) (a:Int),gT fy l i s S= .ok (a,S') s'→S'.dirty.length≤S.dirty.length+l.length
 | [],i,S,S',s,s',a,e=>by cases e;simp
 | v::vs,i,S,S',s,s',a,e=>by
   unfold gT at e
   split at e
   ·have:=jo vs _ _ _ _ _ _ e;simp only[List.length_cons];omega
   ·obtain⟨⟨x,S1⟩,s1,e1,e⟩:=aL e
    have h1:=rh e1
    split at e
    ·cases e;simp only[List.length_cons];omega
    ·have:=jo vs _ _ _ _ _ _ e;simp only[List.length_cons] at this ⊢;omega
structure AD(S:bD)(bd:Nat)(c:Cfg)(s:Dev):Prop where
 w:dR S.L
 n:s.n≤1000000
 d:S.L.d=bd
 c:S.L.c=c
theorem wz(B:World)(Fr:List HP)(bs x bd:Nat)(S:bD)(X:bC)(hX:fj X)(hrl0:0<X.b.rts.length)(c:Cfg)(s:Dev)(hu:U64 s)(hK:AD S bd c s):
 ∀ w,Holds B (dV bs S::eD x X::ax bd s::Fr) w→Calls Tryz.prog 151 [ptr bd,dU c,ptr bs,ptr x].toArray w (Ret B (fun rv H'=>∃ a S' s',iJ c X.block S s= .ok (a,S') s'∧rv=i64 a∧H'=dV bs S'::eD x X::ax bd s'::Fr) (fun ch H'=>∃ s',iJ c X.block S s= .off s'∧ch=dh∧H'=ax bd s'::Fr)):=by
 refine ak func151 aa ntmps151 aa ?_
 have hrl:=hX.rl
 have hbb:=hX.b.act
 have hbf:=hX.free
 have hbw:∀ v∈X.block.rts,0≤v∧v<18446744073709551616:=fun v hv=>by
  obtain⟨u,_,rfl⟩:=List.mem_map.1 hv
  have:=hX.vb u
  omega
 have hfb:=hX.fb
 have hto:=hX.to_
 refine ac (ab (kPb (aY aa) aa fun b5=>(kPa aa aa (ad (ac (ac (ab (kPm aa aa (kPv (aR aa (wT)) aa (aM [1] (de aa (ar call74 aa) (jx B _ bs S 0 0) .free aa aa ?_)))))))))))
 refine kPa aa aa (ad (ac (ab (kPm aa aa (kPv (am aa aa aa) aa (ad (bH aa (rfl) (aw (ac (ac (cQ [0,1,2,4,5,3,6,7] [3,6] [0,1,4,5] [3] [row b5 [i64 c.log,i64 c.roots,i64 c.space] 39] Tryz.mixed (by kernel_rfl) ?_)))))))))))
 refine an aa aa aa (al aa) .free aa (an aa aa aa (ah isAgg39 sizeOf39 aa aa) .free aa ?_)
 refine aT aa aa aa (al aa) .free aa (an aa aa aa (al aa) .free aa (an aa aa aa (c7 aa aa) .free aa (aS aa aa (aM [2] (aE aa (ar call187 aa) (mV B _ x X hX) .free aa aa ?_)))))
 rintro _ _ ⟨bsv,hbsv,rfl,rfl⟩
 refine cy fun qb cb hqb hqi=> ?_
 subst hqb
 refine ad (cL (aS aa aa (aM [4,2] ?_)))
 refine aQ aa (ar call186 aa) (xh B _ _ _ bd bs bD (fun b S=>gS b S) _ _ (oh B bd bs c) c (hK.c▸hK.w.c) X.block (by simp only[bC.block];omega) hbw (by simp only[bC.block,List.length_map];omega) (by simp only[bC.block,List.length_map];omega) (.slice qb X.block.rts.length cb) aa (cP 0 aa) s (S.fresh 0 0) ⟨hu,hK.n,⟨hK.w,fun _ h=>(by cases h)⟩,hK.d,hK.c⟩) .free rfl rfl ?_ ?_
 rotate_left
 ·rintro _ _ ⟨s9,hm9,rfl,rfl⟩
  exact aX fun w hh=>⟨_,⟨s9,by unfold iJ lk;rw[show gT fy (X.block.act::X.block.used::X.block.rts) c.active s (S.fresh 0 0)= .off s9 from hm9];rfl,rfl,rfl⟩,hh.dp [1,1,1]⟩
 rintro _ _ ⟨a2,S2,s2,hm2,rfl,hok2,rfl⟩
 obtain⟨hu2,hn2,hw2,hd2,hc2⟩:=hok2
 obtain rfl:=hd2
 refine ad (cZ aa (aT aa aa aa (bE aa) .free aa (cM (aj [10,8,2] rfl (ac (ab (kPm aa aa (kPv (am aa aa aa) aa (ad ?_)))))))))
 refine aV aa (fun h25=> ?_) (fun h25=> ?_)
 ·have he:a2≠0:=by simpa using h25
  refine ac (ab (kPm aa aa (aM [1,0] ?_)))
  refine aQ aa (ar call95 aa) (lr B _ bs S2 s2 hw2) .free aa aa ?_ ?_
  rotate_left
  ·rintro _ _ ⟨s9,hm9,rfl,rfl⟩
   exact aX fun w hh=>⟨_,⟨s9,by unfold iJ;rw[hm2];simp only[aU];rw[if_pos he,hm9];rfl,rfl,rfl⟩,hh.dp [1,1,1]⟩
  rintro _ _ ⟨S3,s3,hm3,rfl,rfl⟩
  refine ad (ac (ab (kPm aa aa (kPa aa aa (ad (au ?_))))))
  exact aq results151 aa (fun w hh=>⟨_,⟨a2,S3,s3,by unfold iJ;rw[hm2];simp only[aU];rw[if_pos he,hm3];rfl,rfl,rfl⟩,((hh.dp [2,3]).pk [0,1])⟩)
 ·have he:¬ a2≠0:=by simpa using h25
  refine aw (ac (ab (kPm aa aa (aM [1,0] ?_))))
  refine aQ aa (ar call83 aa) (ni B _ bs S2 s2 hw2 (by have:=jo _ _ _ _ _ _ _ hm2;simp only[bD.fresh,bC.block,List.length_cons,List.length_map,List.length_nil] at this;omega)) .free aa aa ?_ ?_
  rotate_left
  ·rintro _ _ ⟨s9,hm9,rfl,rfl⟩
   exact aX fun w hh=>⟨_,⟨s9,by unfold iJ;rw[hm2];simp only[aU];rw[if_neg he,hm9];rfl,rfl,rfl⟩,hh.dp [1,1,1]⟩
  rintro _ _ ⟨S3,s3,hm3,rfl,rfl⟩
  refine kPa aa aa (ad (au ?_))
  exact aq results151 aa (fun w hh=>⟨_,⟨0,S3,s3,by unfold iJ;rw[hm2];simp only[aU];rw[if_neg he,hm3];rfl,rfl,rfl⟩,((hh.dp [2,3]).pk [0,1])⟩)
theorem dt{B:World}{σ:Env}{Fr:List HP}{P:Program}{T:TypeId}{enc:Int→Value}{sv:Value}{xs:List Int}{d:Option Tmp}{ty:TypeId}{p:String}{af:Array Edge}{g:Option (Nat×Bool)}{t:TypeId}{x y:Operand}{at_:Array TypeId}{u:TypeId}{ud:TypeDesc}{ys:List Int}{z yv:Value}
 (ha:at_[0]? =some t) (ha':at_[1]? =some u) (ht:∀ w,(underlying t).run P w= .ok (.slice T) w) (hu:∀ w,(underlying u).run P w= .ok ud w) (hud:∃ q,ud= .slice q) (hs:∀ w,(sizeOf T).run P w= .ok 1 w) (hz:∀ w,(zeroValue T).run P w= .ok z w) (hz1:aN z=true) (he1:∀ v,aN (enc v)=true) (hfb:ed P T)
 (hx:evO σ x=some sv) (hy:evO σ y=some yv) (hr:SlR B Fr yv (ys.map enc)) (hn:xs.length+ys.length≤1000000000):
 Chg P B σ (dQ T enc 0 (sv,xs)::Fr) ⟨d,.call ⟨.builtin .append, #[x,y],at_⟩,ty,p,af,g⟩ (fun v' H'=>aN v'=true∧H'=dQ T enc 0 (v',xs++ys)::Fr):=by
 by_cases h0:0<ys.length
 ·exact kG ha ha' ht hu hud hs hz hz1 he1 hfb hx hy hr h0 hn
 obtain rfl:ys=[]:=List.length_eq_zero_iff.1 (by omega)
 intro a w kn hh
 obtain⟨q,rfl⟩:=hud
 obtain⟨sq,scap,e0,_⟩:=hr.ex
 subst e0
 have hf:(Builtin.firstCells 1 0 (.slice sq 0 scap)).run P w= .ok #[] w:=by
  have:=hr.first (P:=P) (w:=w) hh.tail 0 (Nat.zero_le _)
  simpa using this
 have hsl:∃ q n c,sv= .slice q n c∧n≤c:=by
  rcases fP hh with ⟨_,h2,_⟩ | ⟨bd,pre,rest,k,_,h1,_⟩
  ·exact⟨_,_,_,h2,Nat.le_refl _⟩
  ·exact⟨_,_,_,h1,Nat.le_add_right _ _⟩
 obtain⟨q2,n2,c2,rfl,hc2⟩:=hsl
 refine⟨.value (.slice q2 n2 c2),w,?_,_,.inl aa,_,⟨rfl,rfl⟩,by simpa using hh⟩
 simp only[execOp,resolve,Sem.run_bind,Sem.run_pure,Result.andThen_ok]
 simp only[List.map_nil,List.length_nil] at hy
 cases q2<;>simp[invoke,builtin,Builtin.append_,ha,ha',hu,kn.eval hx,kn.eval hy,ht,hs,Builtin.lenOf,hc2,hf,storeCells]
theorem nL{s s':Dev}{i v a:Int}(e:s.store i v= .ok a s'):s'.n=s.n:=by
 unfold Dev.store at e
 split at e
 ·cases e;rfl
 split at e
 ·cases e
 ·cases e;rfl
theorem nQ{s s':Dev}{i a:Int}(e:s.flush i= .ok a s'):s'.n=s.n:=by
 unfold Dev.flush at e
 split at e
 ·cases e;rfl
 split at e
 ·cases e
 ·cases e;rfl
theorem nR{s s':Dev}{a:Unit}(e:s.fence= .ok a s'):s'.n=s.n:=by
 unfold Dev.fence at e
 split at e
 ·cases e
 ·cases e;rfl
theorem Ap:∀ (k:Nat) (i a f:Int) (s s':Dev),p4 k i a f s= .ok () s'→s'.n=s.n
 | 0,_,_,_,s,s',e=>by cases e;rfl
 | k+1,i,a,f,s,s',e=>by
   rw[mU] at e
   obtain⟨_,s1,e1,e⟩:=aL e
   exact(Ap k _ _ _ _ _ e).trans (nL e1)
theorem tQ{S:bC}{s s':Dev}{w:Int}{r:Int×bC}(e:S.copied s w= .ok r s'):s'.n=s.n:=by
 unfold bC.copied at e
 split at e
 ·cases e;rfl
 split at e
 ·cases e;rfl
 split at e
 ·cases e;rfl
 obtain⟨_,s1,e1,e⟩:=aL e
 cases e
 exact Ap _ _ _ _ _ _ e1
theorem rp:∀ (k:Nat) (i:Int) (S S':bC) (s s':Dev),jW k i S s= .ok S' s'→s'.n=s.n
 | 0,_,S,S',s,s',e=>by cases e;rfl
 | k+1,i,S,S',s,s',e=>by
   rw[ii] at e
   split at e
   ·exact rp k _ _ _ _ _ e
   ·obtain⟨r,s1,e1,e⟩:=aL e
    obtain⟨_,s2,e2,e⟩:=aL e
    exact((rp k _ _ _ _ _ e).trans (nL e2)).trans (tQ e1)
theorem vY:∀ (f:Nat) (i e:Int) (s s':Dev) (a:Unit),lX f i e s= .ok a s'→s'.n=s.n
 | 0,_,_,s,s',a,e=>by cases e;rfl
 | f+1,i,e',s,s',a,e=>by
   rw[gw] at e
   split at e
   ·obtain⟨_,s1,e1,e⟩:=aL e
    exact(vY f _ _ _ _ _ e).trans (nQ e1)
   ·cases e;rfl
theorem rg{S:bC}{s s':Dev}{r:Bool×bC}(e:S.step s= .ok r s'):s'.n=s.n:=by
 unfold bC.step at e
 split at e
 ·cases e;rfl
 split at e
 ·obtain⟨_,s1,e1,e⟩:=aL e
  cases e;exact tQ e1
 ·split at e
  ·obtain⟨_,s1,e1,e⟩:=aL e
   cases e;exact rp _ _ _ _ _ _ e1
  ·obtain⟨_,s1,e1,e⟩:=aL e
   cases e
   unfold bC.keep at e1
   obtain⟨_,s2,e2,e1⟩:=aL e1
   have h2:=vY _ _ _ _ _ _ e2
   split at e1
   ·exact(nR e1).trans h2
   ·cases e1;exact h2
theorem vI{S S':bC}{s s':Dev}(e:S.run s= .ok S' s'):s'.n=s.n:=by
 unfold bC.run at e
 revert e
 generalize S.meas+1=f
 intro e
 induction f generalizing S s with
 | zero=>cases e;rfl
 | succ f ih=>
   rw[i8] at e
   obtain⟨r,s1,e1,e⟩:=aL e
   split at e
   ·cases e;exact rg e1
   ·exact(ih e).trans (rg e1)
theorem tF(B:World)(Fr:List HP)(bs bd:Nat)(S:bD)(c:Cfg)(hc:bx c)(s:Dev)(hu:U64 s)(hK:AD S bd c s)(q:Option Addr)(cap:Nat)(ws:List Int)(hwn:ws.length≤900000)(hws:∀ v∈ws,0≤v∧v<18446744073709551616)(hwl:SlR B Fr (.slice q ws.length cap) (ws.map w64)):
 ∀ w,Holds B (dV bs S::ax bd s::Fr) w→Calls Tryz.prog 209 [ptr bd,dU c,ptr bs,.slice q ws.length cap].toArray w (Ret B (fun rv H'=>∃ r s',eS bd c S s ws= .ok r s'∧((r.1=none∧rv= .tuple #[.pointer none,i64 r.2.1]∧H'=dV bs r.2.2::ax bd s'::Fr)∨(∃ x X,r.1=some X∧r.2.1=0∧rv= .tuple #[ptr x,i64 0]∧H'=eD x X::dV bs r.2.2::ax bd s'::Fr))) (fun ch H'=>∃ s',eS bd c S s ws= .off s'∧ch=dh∧H'=ax bd s'::Fr)):=by
 refine ak func209 aa ntmps209 aa (ac (ab (kPb (aY aa) aa fun b5=>(kPa aa aa (kPa aa aa (ad (ac (ac (ab (kPm aa aa (ap aa (ar call72 aa) (bF (q:=dV) (fun Fr=>my B Fr bs S)) .free aa aa ?_)))))))))))
 refine ad (bH aa (rfl) (aw (ac (ab (kPm aa aa (kPv (ah isAgg39 sizeOf39 aa aa) aa ?_))))))
 refine aM [2] (aE aa (ar call135 aa) (fX _ _ _ _ c hc hu) .free aa aa ?_)
 rintro _ _ ⟨sv,hsv,rfl,rfl⟩
 have hbk:=dB (s:=s) hc hu
 have hrl:=fc (s:=s) hc
 refine kPm aa aa (kPv (az aa aa) aa (kPv (az aa aa) aa (kPb (aD zeroValue125 aa) aa fun b10=> ?_)))
 refine kPs (aA (vs:=_) sizeOf125 aa aa aa (by first | rfl | exact eB (by assumption)) rfl) rfl ?_;refine kPa aa aa ?_;refine ad ?_;refine aj [11,10,9,8,5,0,2,3] rfl ?_;refine ac ?_;refine ac ?_;refine ab ?_;refine kPm aa aa ?_;refine kPv (am aa aa aa) aa ?_;refine ad ?_
 refine aV aa (fun h23=> ?_) (fun h23=> ?_)
 ·have he:(s.block c).2≠0:=by simpa using h23
  have hres:eS bd c S s ws= .ok (none,(s.block c).2,S) s:=by unfold eS;rw[if_pos he]
  refine ac (ab (kPm aa aa (kPa aa aa (kPa aa aa (ad (au ?_))))))
  exact bz results209 aa aa (fun w hh=>⟨_,⟨_,_,hres,.inl ⟨rfl,rfl,rfl⟩⟩,((hh.dp [0,0,1]).pk [1])⟩)
 ·have he:(s.block c).2=0:=by simpa using h23
  have hrl0:0<(s.block c).1.rts.length:=mX hc he
  refine aM [1] (cy fun qo co hqo hqoi=> ?_)
  subst hqo
  refine aK (H':=da 0 (.slice qo (s.block c).1.rts.length co,(s.block c).1.rts)::row b10 [i64 (s.block c).1.act,i64 (s.block c).1.used,.slice qo (s.block c).1.rts.length co] 125::ax bd s::row b5 [i64 c.log,i64 c.roots,i64 c.space] 39::dV bs S::Fr) (fun w hh=>by have h:=hh;exact h) (aw (ac (cQ [0,1,2,4,5,7,3,6,8,9,10] [3,6,8,9] [0,1,2,4,5,7] [3,6,8] [row b5 [i64 c.log,i64 c.roots,i64 c.space] 39,row b10 [i64 (s.block c).1.act,i64 (s.block c).1.used,.slice qo (s.block c).1.rts.length co] 125] Tryz.mixed (by kernel_rfl) ?_)))
  refine an aa aa aa (al aa) .free aa (an aa aa aa (ah isAgg39 sizeOf39 aa aa) .free aa ?_)
  refine an aa aa aa (ah isAgg125 sizeOf125 aa aa) .free aa ?_
  refine an aa aa aa (aC (m:=_) eO aa aa) .free aa (an aa aa aa (ag isAgg22 aa aa) .free aa (an aa aa aa (al aa) .free aa (aS aa aa (kPb (rH runUnderlying22 sizeOf24) aa fun b28=>(aK (H':=da 0 (.slice (some ⟨b28,0,none⟩) 0 0,[])::_) (fun w hh=>gB (xs:=[]) aa aa hh) (ad (cL (aS aa aa (cX aa (dt (yv:= .slice qo (s.block c).1.rts.length co) (ys:=(s.block c).1.rts) aa aa runUnderlying22 runUnderlying22 ⟨_,rfl⟩ sizeOf24 zeroValue24 aa (fun _=>rfl) gh aa aa (cP 0 aa) (by simp;omega)) .free aa aa ?_)))))))))
  rintro nv2 _ ⟨hnv2,rfl⟩
  refine ad (cL (aS aa aa (cX aa (dt (yv:= .slice q ws.length cap) (ys:=ws) aa aa runUnderlying22 runUnderlying22 ⟨_,rfl⟩ sizeOf24 zeroValue24 aa (fun _=>rfl) gh aa aa hwl.up (by simp;omega)) .free aa aa ?_)))
  rintro nv3 _ ⟨hnv3,rfl⟩
  refine cy fun qn cn hqn0 hqni=> ?_
  subst hqn0
  have hqn:qn=none→(s.block c).1.rts++ws=[]:=fun e=>by
   cases hl:(s.block c).1.rts++ws with
   | nil=>rfl
   | cons a t=>
     obtain⟨b,o,h⟩:=hqni 0 (by show 0<((s.block c).1.rts++ws).length;rw[hl];exact Nat.succ_pos _)
     rw[e] at h;cases h
  refine ad (cL (aS aa aa (aM [1] (aE aa (ar call89 aa) (nU B _ bd c hc (s.block c).1 hbk (.slice qo (s.block c).1.rts.length co) aa qn cn ((s.block c).1.rts++ws) (by rw[List.length_append];omega) hqn (cP 1 aa)) .free aa aa ?_))))
  rintro _ _ ⟨x,rfl,rfl⟩
  have hX0:fj (ei bd c (s.block c).1 ((s.block c).1.rts++ws)):=lU hc hbk hrl (fQ hu) (fun v hv=>by
   rcases List.mem_append.1 hv with hv | hv
   ·exact fQ hu v hv
   ·exact hws v hv)
  refine ad (cZ aa (aT aa aa aa (bE aa) .free aa (cM (aj [12,9,8,5,0,2] rfl (ac (ab (kPm aa aa (aM [0,2] ?_))))))))
  refine aQ aa (ar call91 aa) (wQ B _ x (ei bd c (s.block c).1 ((s.block c).1.rts++ws)) hX0 s hu) .free aa aa ?_ ?_
  rotate_left
  ·rintro _ _ ⟨s9,hm9,rfl,rfl⟩
   exact aX fun w hh=>⟨_,⟨s9,by unfold eS;rw[if_neg (by omega)];rw[hm9];rfl,rfl,rfl⟩,hh.dp [1,1,1,1]⟩
  rintro _ _ ⟨X,s1,hm1,rfl,rfl⟩
  obtain⟨hX,hu1,hXb,hXbd,hXc,hXto⟩:=oD _ _ _ _ _ hX0 hu hm1
  have hn1:=vI hm1
  refine ad (ac (ac (ab (kPm aa aa (kPv (ah isAgg39 sizeOf39 aa aa) aa ?_)))))
  refine kPm aa aa (kPm aa aa (aM [5,0,0] ?_))
  refine aQ aa (ar call151 aa) (wz B _ bs x bd S X hX (by rw[hXb];exact hrl0) c s1 hu1 ⟨hK.w,by rw[hn1];exact hK.n,hK.d,hK.c⟩) .free aa aa ?_ ?_
  rotate_left
  ·rintro _ _ ⟨s9,hm9,rfl,rfl⟩
   exact aX fun w hh=>⟨_,⟨s9,by unfold eS;rw[if_neg (by omega)];rw[hm1];simp only[aU];rw[hm9];rfl,rfl,rfl⟩,hh.dp [1,1,1]⟩
  rintro _ _ ⟨a2,S2,s2,hm2,rfl,rfl⟩
  refine kPa aa aa (ad (aj [13,12,9,8] rfl (ac (ab (kPm aa aa (kPv (am aa aa aa) aa (ad ?_)))))))
  refine aV aa (fun h43=> ?_) (fun h43=> ?_)
  ·have ha2:a2≠0:=by simpa using h43
   refine ac (ab (kPm aa aa (kPa aa aa (kPa aa aa (ad (au ?_))))))
   exact bz results209 aa aa (fun w hh=>⟨_,⟨(none,a2,S2),s2,by unfold eS;rw[if_neg (by omega),hm1];simp only[aU];rw[hm2];simp only[aU];rw[if_pos ha2],.inl ⟨rfl,rfl,rfl⟩⟩,(hh.dp [1,2,2,2])⟩)
  ·have ha2:¬ a2≠0:=by simpa using h43
   refine aw (ac (ab (kPm aa aa (kPa aa aa (kPa aa aa (ad (au ?_)))))))
   exact bz results209 aa aa (fun w hh=>⟨_,⟨(some X,0,S2),s2,by unfold eS;rw[if_neg (by omega),hm1];simp only[aU];rw[hm2];simp only[aU];rw[if_neg ha2],.inr ⟨x,X,rfl,rfl,rfl,rfl⟩⟩,((hh.dp [3,3,3]).pk [1])⟩)
theorem of{L L':bT}{s s':Dev}(hL:dR L)(e:L.truncate s= .ok L' s'):(U64 s→U64 s')∧s'.n=s.n∧dR L'∧L'.d=L.d∧L'.c=L.c∧L'.n=0:=by
 unfold bT.truncate at e
 split at e
 ·rename_i h;cases e;exact⟨id,rfl,hL,rfl,rfl,h⟩
 obtain⟨_,s1,e1,e⟩:=aL e
 obtain⟨_,s2,e2,e⟩:=aL e
 obtain⟨_,s3,e3,e⟩:=aL e
 cases e
 have h1:=hL.c.l1;have h2:=hL.c.r1
 refine⟨fun hu=> ?_,((nR e3).trans (nQ e2)).trans (nL e1),⟨hL.c,by simp only;omega,by simp only;omega,Int.le_refl 0,by simp only;omega⟩,rfl,rfl,rfl⟩
 exact(eY (dT (cA hu (by omega) e1).1 e2).1 e3).1
theorem yV{c:Cfg}:∀ (k:Nat) (s s':Dev),kZ jU c k s= .ok () s'→(U64 s→U64 s')∧s'.n=s.n
 | 0,s,s',e=>by cases e;exact⟨id,rfl⟩
 | k+1,s,s',e=>by
   unfold kZ at e
   obtain⟨_,s1,e1,e⟩:=aL e
   unfold jU at e1
   obtain⟨_,s2,e2,e1⟩:=aL e1
   obtain⟨_,s3,e3,e1⟩:=aL e1
   cases e1
   obtain⟨g1,g2⟩:=yV k s1 s' e
   exact⟨fun hu=>g1 (dT (cA hu (hu.load _) e2).1 e3).1,g2.trans ((nQ e3).trans (nL e2))⟩
theorem yp{L L':bT}{s s':Dev}(hL:dR L)(e:L.undo s= .ok L' s'):(U64 s→U64 s')∧s'.n=s.n∧dR L'∧L'.d=L.d∧L'.c=L.c∧L'.n=0:=by
 unfold bT.undo at e
 obtain⟨_,s1,e1,e⟩:=aL e
 obtain⟨_,s2,e2,e⟩:=aL e
 obtain⟨g1,g2⟩:=yV _ _ _ e1
 obtain⟨h1,h2,h3,h4,h5,h6⟩:=of hL e
 have k:(U64 s1→U64 s2)∧s2.n=s1.n:=by
  split at e2
  ·exact⟨fun hu=>(eY hu e2).1,nR e2⟩
  ·cases e2;exact⟨id,rfl⟩
 exact⟨fun hu=>h1 (k.1 (g1 hu)),(h2.trans k.2).trans g2,h3,h4,h5,h6⟩
theorem pt:∀ (l:List Int) (s s':Dev),dK l s= .ok () s'→(U64 s→U64 s')∧s'.n=s.n
 | [],s,s',e=>by cases e;exact⟨id,rfl⟩
 | k::ks,s,s',e=>by
   unfold dK at e
   obtain⟨_,s1,e1,e⟩:=aL e
   obtain⟨g1,g2⟩:=pt ks s1 s' e
   exact⟨fun hu=>g1 (dT hu e1).1,g2.trans (nQ e1)⟩
theorem tR{S S':bD}{s s':Dev}(hL:dR S.L)(e:S.commit s= .ok S' s'):(U64 s→U64 s')∧s'.n=s.n∧dR S'.L∧S'.L.d=S.L.d∧S'.L.c=S.L.c∧S'.L.n=0:=by
 unfold bD.commit at e
 obtain⟨_,s1,e1,e⟩:=aL e
 obtain⟨_,s2,e2,e⟩:=aL e
 obtain⟨_,s3,e3,e⟩:=aL e
 cases e
 obtain⟨g1,g2⟩:=pt _ _ _ e1
 obtain⟨h1,h2,h3,h4,h5,h6⟩:=of hL e3
 have k:(U64 s1→U64 s2)∧s2.n=s1.n:=by
  split at e2
  ·exact⟨fun hu=>(eY hu e2).1,nR e2⟩
  ·cases e2;exact⟨id,rfl⟩
 exact⟨fun hu=>h1 (k.1 (g1 hu)),(h2.trans k.2).trans g2,h3,h4,h5,h6⟩
theorem wX{S S':bD}{s s':Dev}(hL:dR S.L)(e:S.abort s= .ok S' s'):(U64 s→U64 s')∧s'.n=s.n∧dR S'.L∧S'.L.d=S.L.d∧S'.L.c=S.L.c∧S'.L.n=0:=by
 unfold bD.abort at e
 obtain⟨_,s1,e1,e⟩:=aL e
 cases e
 exact yp hL e1
theorem n7:∀ (l:List Int) (i:Int) (S S':bD) (s s':Dev) (a:Int),(∀ v∈l,0≤v∧v<18446744073709551616)→lF S→U64 s→s.n≤1000000→gT fy l i s S= .ok (a,S') s'→U64 s'∧s'.n=s.n∧dR S'.L∧S'.L.d=S.L.d∧S'.L.c=S.L.c
 | [],i,S,S',s,s',a,_,hS,hu,_,e=>by cases e;exact⟨hu,rfl,hS.L,rfl,rfl⟩
 | v::vs,i,S,S',s,s',a,hv,hS,hu,hn,e=>by
   unfold gT at e
   split at e
   ·exact n7 vs _ _ _ _ _ _ (fun v hv'=>hv v (List.mem_cons_of_mem _ hv')) hS hu hn e
   ·obtain⟨⟨x,S1⟩,s1,e1,e⟩:=aL e
    have h1:=ju hS hu hn (hv v (List.mem_cons_self ..)) e1
    have h2:=j7 hS.L e1
    have h3:=og e1
    have h4:lF S1:=rd hS hn (by have:=(AB hS.L.c).1;omega) e1 h2
    split at e
    ·cases e;exact⟨h1.1,h1.2,h2,h3.1,h3.2.1⟩
    ·obtain⟨g1,g2,g3,g4,g5⟩:=n7 vs _ _ _ _ _ _ (fun v hv'=>hv v (List.mem_cons_of_mem _ hv')) h4 h1.1 (by rw[h1.2];exact hn) e
     exact⟨g1,g2.trans h1.2,g3,g4.trans h3.1,g5.trans h3.2.1⟩
theorem Bt{S:bD}(h:dR S.L)(f t:Int):lF (S.fresh f t):=⟨h,fun p hp=>(List.not_mem_nil (show p∈([]:List (Int×Unit)) from hp)).elim⟩
theorem zQ{c:Cfg}{b:Blk}{S S':bD}{s s':Dev}{a:Int}(hb:∀ v∈b.act::b.used::b.rts,0≤v∧v<18446744073709551616)(hL:dR S.L)(hu:U64 s)(hn:s.n≤1000000)(e:iJ c b S s= .ok (a,S') s'):U64 s'∧s'.n=s.n∧dR S'.L∧S'.L.d=S.L.d∧S'.L.c=S.L.c∧S'.L.n=0:=by
 unfold iJ lk at e
 obtain⟨⟨x,S1⟩,s1,e1,e⟩:=aL e
 obtain⟨g1,g2,g3,g4,g5⟩:=n7 _ _ _ _ _ _ _ hb (Bt hL 0 0) hu hn e1
 split at e
 ·obtain⟨S2,s2,e2,e⟩:=aL e
  cases e
  obtain⟨h1,h2,h3,h4,h5,h6⟩:=wX g3 e2
  exact⟨h1 g1,h2.trans g2,h3,h4.trans g4,h5.trans g5,h6⟩
 ·obtain⟨S2,s2,e2,e⟩:=aL e
  cases e
  obtain⟨h1,h2,h3,h4,h5,h6⟩:=tR g3 e2
  exact⟨h1 g1,h2.trans g2,h3,h4.trans g4,h5.trans g5,h6⟩
theorem tT{X:bC}(h:fj X):∀ v∈X.block.act::X.block.used::X.block.rts,0≤v∧v<18446744073709551616:=fun v hv=>by
 have h1:=h.b.act;have h2:=h.free;have h3:=h.fb;have h4:=h.to_
 simp only[List.mem_cons] at hv
 rcases hv with rfl | rfl | hv
 ·simp only[bC.block];omega
 ·simp only[bC.block];omega
 ·obtain⟨u,_,rfl⟩:=List.mem_map.1 hv
  have:=h.vb u
  omega
theorem xX{bd:Nat}{c:Cfg}{S:bD}{s s':Dev}{ws:List Int}{r:Option bC×Int×bD}(hc:bx c)(hw:∀ v∈ws,0≤v∧v<18446744073709551616)(hL:dR S.L)(hu:U64 s)(hn:s.n≤1000000)(hL0:S.L.n=0)(e:eS bd c S s ws= .ok r s'):U64 s'∧s'.n=s.n∧dR r.2.2.L∧r.2.2.L.d=S.L.d∧r.2.2.L.c=S.L.c∧r.2.2.L.n=0∧(∀ X,r.1=some X→fj X):=by
 unfold eS at e
 split at e
 ·cases e;exact⟨hu,rfl,hL,rfl,rfl,hL0,fun _ h=>by cases h⟩
 obtain⟨X,s1,e1,e⟩:=aL e
 have hX0:fj (ei bd c (s.block c).1 ((s.block c).1.rts++ws)):=lU hc (dB hc hu) (fc hc) (fQ hu) fun v hv=>by
  rcases List.mem_append.1 hv with hv | hv
  ·exact fQ hu v hv
  ·exact hw v hv
 obtain⟨hX,u1,_⟩:=oD _ _ _ _ _ hX0 hu e1
 have n1:=vI e1
 obtain⟨⟨a,S2⟩,s2,e2,e⟩:=aL e
 obtain⟨g1,g2,g3,g4,g5,g6⟩:=zQ (tT hX) hL u1 (by rw[n1];exact hn) e2
 split at e
 ·cases e;exact⟨g1,g2.trans n1,g3,g4,g5,g6,fun _ h=>by cases h⟩
 ·cases e;exact⟨g1,g2.trans n1,g3,g4,g5,g6,fun X' h=>by cases h;exact hX⟩
theorem xA(B:World)(H:List HP)(r:Nat):
 ∀ w,Holds B H w→Calls Tryz.prog 149 [.map (some r)].toArray w (Ret B (fun v H'=>∃ bb,v= .func (.func 183) [].toArray [ptr bb].toArray∧H'=row bb [.map (some r)] 86::H) (fun _ _=>False)):=by
 refine ak func149 aa ntmps149 aa (ac (ab (kPb (dA aa aa) aa fun b1=>(kPa aa aa (ad (ac (ab (kPv (c7 aa aa) aa (kPa aa aa (ad (au ?_)))))))))))
 exact aq results149 aa (fun w hw=>⟨_,⟨_,rfl,rfl⟩,hw⟩)
theorem uK(B:World)(Fr:List HP)(l f mr bb b2:Nat)(ml:List (Int×Int))(r:Loop)(hrf:r.fn=f)(hrp:r.params.size=1)(hround:∀ (A1 A2:HP) (v:Int) (xs:List Int),xs.length<ml.length→∀ w,Holds B (blk l (.loop r)::A1::A2::j2 b2 xs::Fr) w→RoundIn (Wd (cxF f)) 0 Tryz.prog l f ((r.params.zip [i64 v].toArray).foldl (fun tmps (t,a)=>tmps.setIfInBounds t a) r.tmps) r.assign r.body w (Ret B (fun rv H'=>rv= .bool true∧H'=blk l (.loop r)::A1::A2::j2 b2 (xs++[v])::Fr) (fun _ _=>False))):
 ∀ w,Holds B (blk l (.loop r)::row bb [.map (some mr)] 86::bB .i64 i64 mr ml::j2 b2 []::Fr) w→Calls Tryz.prog 183 [.func (.yield l) #[] #[],ptr bb].toArray w (Ret B (fun rv H'=>∃ ks:List Int,ks.Perm (ml.map Prod.fst)∧H'=blk l (.loop r)::row bb [.map (some mr)] 86::bB .i64 i64 mr ml::j2 b2 ks::Fr) (fun _ _=>False)):=by
 refine ak func183 aa ntmps183 aa (ac (ab (kPv (ag isAgg86 aa aa) aa (kPb (mp runUnderlying86 aa) aa fun it=>(ad (aI (dF (ι:=List (Int×Int)) (fun d=>d.length≤ml.length) (fun d=>[(0,.func (.yield l) #[] #[]),(1,ptr bb),(5,.pointer (some ⟨it,0,none⟩))]) (fun done=>blk l (.loop r)::row bb [.map (some mr)] 86::fO .i64 i64 mr it ml done::j2 b2 (done.map Prod.fst)::Fr) (fun d=>ml.length - d.length) [] (Nat.zero_le _) (fun a w st=>st.to ⟨rfl,rfl,rfl,trivial⟩ id) ?_)))))))
 intro done hdone
 refine ac (ab (cX aa (nV aa) .free aa aa ?_))
 rintro _ _ ⟨bb0,vs,done',rfl,hvs,rfl,hno,hyes⟩
 refine kPv (az aa hvs) aa (ad (ac ?_))
 refine aV aa (fun h7=> ?_) (fun h7=> ?_)
 ·obtain⟨pp,hpl,hpn,rfl⟩:=hyes h7
  refine iH it fun hl hd hsub=>(aw (aI (ac (ab (kPv (mm (p0:=pp) (dn:=done) aa) aa (kPv (az aa aa) aa (kPa aa aa (ad (ac (ab (kPm aa aa ?_)))))))))))
  refine kPm aa aa ?_
  refine fZ (f:=f) aa aa (fun w hw=>hw) (by rw[hrp];rfl) hrf (hround _ _ _ _ (by have:=iG hd hsub;simp;omega)) .free aa ?_ ?_
  rotate_left
  ·rintro _ _ ⟨⟩
  rintro _ _ ⟨rfl,rfl⟩
  refine kPv (bu aa) aa (ad (aj [13,5,0,1] rfl (bH aa (rfl) (aw ?_))))
  have hle:=iG hd hsub
  exact fun a w st=>⟨done++[pp],by simp;omega,by simp;omega,st.to ⟨rfl,rfl,rfl,trivial⟩ (fun hh=>by rw[List.map_append];exact hh)⟩
 ·obtain⟨rfl,hall⟩:=hno h7
  refine iH it fun hl hd hsub=>(aK (fun w hh=>hh.iter_end it) (bJ ?_))
  exact cG results183 (fun w hh=>⟨_,⟨_,(List.perm_ext_iff_of_nodup hd hl).2 fun x=>⟨fun hx=>by obtain⟨p,hp,rfl⟩:=List.mem_map.1 hx;exact List.mem_map_of_mem (hsub p hp),fun hx=>by obtain⟨p,hp,rfl⟩:=List.mem_map.1 hx;exact List.mem_map_of_mem (hall p hp)⟩,rfl⟩,hh⟩)
theorem vr(B:World)(Fr:List HP)(mr bb:Nat)(ml:List (Int×Int))(hml:ml.length≤1000000):
 ∀ w,Holds B (row bb [.map (some mr)] 86::bB .i64 i64 mr ml::Fr) w→Calls Tryz.prog 203 [.slice none 0 0,.func (.func 183) [].toArray [ptr bb].toArray].toArray w (Ret B (fun rv H'=>∃ ks:List Int,ks.Perm (ml.map Prod.fst)∧H'=iC 0 (rv,ks)::bB .i64 i64 mr ml::Fr) (fun _ _=>False)):=by
 refine eK func203 aa ntmps203 aa (ac (ab (kPb (dA aa aa) aa fun b2=>(kPa aa aa (ad (ac (ac (ab (kPm aa aa (ad (aI ?_)))))))))))
 refine pn (ι:=List Int) (fun ks=>row bb [.map (some mr)] 86::bB .i64 i64 mr ml::j2 b2 ks::Fr) (fun ks=>ks.Perm (ml.map Prod.fst)) (fun _=>False) [] rfl call183 ?_ ?_ ?_
 ·intro l m tmps hts hkn w hh
  have hk2:=hkn 2 _ rfl
  refine(uK B (blk m (.deferred (some []))::Fr) l 203 mr bb b2 ml _ aa aa ?_ w (((((wW ((((hh.front 4 aa).front 4 aa).front 2 aa).front 4 aa)).front 0 aa).front 3 aa).front 3 aa).front 3 aa)).mono (Ret.mono ?_ ?_)
  rotate_left
  ·rintro v H' ⟨ks,hks,rfl⟩
   exact⟨ks,hks,fun w hh=>((hh.front 4 aa).front 1 aa)⟩
  ·rintro c H' ⟨⟩
  intro A1 A2 v xs hxs
  have hxs:xs.length≤1000000:=by omega
  refine gI (n:=13) (σ:=[(7,i64 v),(2,ptr b2)]) func203 (by simp[fT,hts]) (KnA.knows (by simp[KnA,fT,hts];exact(Array.getElem?_eq_some_iff.1 hk2).2)) aa ?_;refine ab ?_;refine kPa aa aa ?_;refine ad ?_;refine kr ?_;refine dE 3 aa ?_
  refine zI (fun hxe=> ?_) (fun bd rest=> ?_)
  ·subst hxe
   refine aI (ab (kPv (ag isAgg59 aa aa) aa (kPm aa aa (kPb (gA runUnderlying59 sizeOf3 zeroValue3 aa aa aa) aa fun b1=>(cX aa (gF aa aa runUnderlying59 runUnderlying59 ⟨_,rfl⟩ sizeOf3 zeroValue3 aa yr aa aa (SlR.row (xs:=[i64 v]) aa aa) (by simp) (by simp)) .free aa aa ?_)))))
   rintro _ _ ⟨bn,cn,rest',hcn,hrest,rfl,rfl⟩
   refine kPs (aO sizeOf59 aa aa aa aa) aa (ad (aj [] rfl (dE 3 aa ?_)))
   exact kq fun w hh=>⟨_,⟨rfl,rfl⟩,((((((nZ (xs:=[]++[v]) (by simp) (by first | omega | (simp at*;omega)) ((hh.front 1 aa).front 3 aa)).front 2 aa).tail.front 0 aa).front 3 aa).front 3 aa).front 3 aa)⟩
  ·skip
   refine aI (ab (kPv (ag isAgg59 aa aa) aa (kPm aa aa (kPb (gA runUnderlying59 sizeOf3 zeroValue3 aa aa aa) aa fun b1=>(cX aa (ji aa aa runUnderlying59 runUnderlying59 ⟨_,rfl⟩ sizeOf3 zeroValue3 aa yr aa aa (SlR.row (xs:=[i64 v]) aa aa) (by simp) (by omega) (by simp;omega) aa) .free aa aa (fun v2 H2 hY=> ?_))))))
   revert hY
   generalize hob:Obj.loop _=ob
   intro hY
   have hY2:∃ bn c' rest',c'=xs.length+1+rest'.length∧v2= .slice (some ⟨bn,0,none⟩) (xs.length+1) c'∧∀ w,Holds B H2 w→Holds B (row b2 [.slice (some ⟨bd,0,none⟩) xs.length (xs.length+rest.length)] 59::row bn ((xs++[v]).map i64++rest') 3::blk l ob::A1::A2::blk m (.deferred (some []))::Fr) w:=by
    rcases hY with ⟨h1,rfl,rfl⟩ | ⟨h1,bn,cn,rest',h2,_,rfl,rfl⟩
    ·refine⟨bd,_,rest.drop 1,by simp at h1 ⊢;omega,rfl,fun w hh=> ?_⟩
     have h3:=hh.tail
     rw[wV (by simp at h1;omega)] at h3
     exact h3
    ·refine⟨bn,_,rest',by simpa using h2.symm,rfl,fun w hh=> ?_⟩
     have h3:=((((hh.front 1 rfl).tail).front 2 rfl).tail).front 1 rfl
     have e:(xs++[v]).map i64++rest'=((xs.map i64++rest).drop 0).take xs.length++[i64 v]++rest':=by simp
     rw[e]
     exact h3
   obtain⟨bn,c',rest',hc',rfl,hY3⟩:=hY2
   refine aK hY3 (kPs (aO sizeOf59 aa aa aa aa) aa (ad (aj [] rfl ?_)))
   subst hob
   refine dE 2 aa ?_
   exact kq fun w hh=>⟨_,⟨rfl,rfl⟩,(((((nZ (xs:=xs++[v]) (by simp) (by first | omega | (simp at*;omega)) ((hh.front 2 aa).front 2 aa)).front 0 aa).front 3 aa).front 3 aa).front 3 aa)⟩
 rotate_left
 ·rintro m x ⟨⟩
 intro m ks hks
 refine dE 3 aa (wt fun sv=>(ac (ab (kPv (ag isAgg59 aa aa) aa (kPa aa aa (ad (au ?_)))))))
 exact fM results203 aa (.cons (i:=2) aa .nil) (fun w hh=>⟨_,⟨ks,hks,rfl⟩,(((hh.front 3 aa).front 3 aa).front 2 aa).tail.tail.tail⟩)
theorem tS(B:World)(Fr:List HP)(mr bb:Nat)(ml:List (Int×Int))(hml:ml.length≤1000000):
 ∀ w,Holds B (row bb [.map (some mr)] 86::bB .i64 i64 mr ml::Fr) w→Calls Tryz.prog 177 [.func (.func 183) [].toArray [ptr bb].toArray].toArray w (Ret B (fun rv H'=>∃ ks:List Int,ks.Perm (ml.map Prod.fst)∧H'=iC 0 (rv,ks)::bB .i64 i64 mr ml::Fr) (fun _ _=>False)):=by
 refine ak func177 aa ntmps177 aa (ac (ab (kPa aa aa (ad (ac (ab (kPm aa aa (aE aa (ar call203 aa) (vr _ _ mr bb ml hml) .free aa aa ?_))))))))
 rintro _ _ ⟨ks,hks,rfl⟩
 refine kPa aa aa (ad (au ?_))
 exact aq results177 aa (fun w hw=>⟨_,⟨ks,hks,rfl⟩,hw⟩)
theorem uo(B:World)(Fr:List HP)(mr bb:Nat)(ml:List (Int×Int))(hml:ml.length≤1000000):
 ∀ w,Holds B (row bb [.map (some mr)] 86::bB .i64 i64 mr ml::Fr) w→Calls Tryz.prog 145 [.func (.func 183) [].toArray [ptr bb].toArray].toArray w (Ret B (fun rv H'=>H'=iC 0 (rv,cq (ml.map Prod.fst))::bB .i64 i64 mr ml::Fr) (fun _ _=>False)):=by
 refine ak func145 aa ntmps145 aa (ac (ab (kPa aa aa (ad (ac (ab (kPm aa aa (aE aa (ar call177 aa) (tS _ _ mr bb ml hml) .free aa aa ?_))))))))
 rintro v5 _ ⟨ks,hks,rfl⟩
 have hkl:ks.length≤1000000:=by rw[hks.length_eq,List.length_map];exact hml
 refine kPa aa aa (ad (ac (ab (kPm aa aa (aE aa (ar call178 aa) (sl _ _ _ ks hkl) .free aa aa ?_)))))
 rintro _ _ rfl
 refine ad (ac (ab (kPm aa aa (kPa aa aa (ad (aj [2] rfl (au ?_)))))))
 exact aq results145 aa (fun w hw=>⟨_,rfl,by rw[←ou hks];exact hw⟩)
end Go.Proofs.YtipdhkmphngmoaaGreatDoor
