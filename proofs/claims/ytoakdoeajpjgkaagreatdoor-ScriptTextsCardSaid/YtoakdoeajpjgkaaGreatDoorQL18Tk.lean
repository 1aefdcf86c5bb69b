/- Part of a law's texts. Conditions: none. -/
import Derived.Test.YtoakdoeajpjgkaaGreatDoorQL18Tj
open Go.Proofs.Tryz
set_option linter.all false
namespace Go.Proofs.YtoakdoeajpjgkaaGreatDoor
open Go
theorem qS:∀ (k:Nat) (i:Int) (S S':bE) (s s':Dev),eX S→U64 s→S.todo=[]→jM k i S s= .ok S' s'→eX S'∧U64 s'∧S'.scan=S.scan∧S'.todo=[]∧S'.done=S.done∧S'.b=S.b∧S'.bd=S.bd∧S'.c=S.c∧S'.to_=S.to_∧S.free≤S'.free∧S'.free - S.free+66*(S.b.used.toNat - S'.went.length:Nat)≤66*(S.b.used.toNat - S.went.length:Nat)
 | 0,_,S,S',s,s',h,hu,ht,e=>by cases e;exact⟨h,hu,rfl,ht,rfl,rfl,rfl,rfl,rfl,Int.le_refl _,by omega⟩
 | k+1,i,S,S',s,s',h,hu,ht,e=>by
   unfold jM at e
   split at e
   ·exact qS k _ S S' s s' h hu ht e
   ·obtain⟨r,s1,e1,e⟩:=aH e
    obtain⟨_,s2,e2,e⟩:=aH e
    obtain⟨h1,hv,h2,h3,h4,h5,h6,h7,h8,h9,h10⟩:=l9 h e1
    have u1:=jG hu e1
    have u2:=cu u1.1 (by omega) e2
    obtain⟨g1,gu,g2,g3,g4,g5,g6,g7,g8,g9,g10⟩:=qS k _ r.2 S' s2 s' h1 u2.1 (h3.trans ht) e
    rw[h5] at g10
    exact⟨g1,gu,g2.trans h2,g3,g4.trans h4,g5.trans h5,g6.trans h6,g7.trans h7,g8.trans h8,Int.le_trans h9 g9,by omega⟩
theorem p7:∀ (f:Nat) (i e:Int) (s s':Dev) (a:Unit),U64 s→lM f i e s= .ok a s'→U64 s'
 | 0,_,_,s,s',a,h,e=>by cases e;exact h
 | f+1,i,e',s,s',a,h,e=>by
   unfold lM at e
   split at e
   ·obtain⟨_,s1,e1,e⟩:=aH e
    exact p7 f _ _ s1 s' a (dG h e1).1 e
   ·cases e;exact h
theorem yN{S:bE}{s s':Dev}{a:Unit}(h:U64 s)(e:S.keep s= .ok a s'):U64 s':=by
 unfold bE.keep at e
 obtain⟨_,s1,e1,e⟩:=aH e
 have h1:=p7 _ _ _ _ _ _ h e1
 split at e
 ·exact(eK h1 e).1
 ·cases e;exact h1
theorem qL{S:bE}(h:eX S){s s':Dev}(hu:U64 s){r:Bool×bE}(e:S.step s= .ok r s'):eX r.2∧U64 s'∧r.2.b=S.b∧r.2.bd=S.bd∧r.2.c=S.c∧r.2.to_=S.to_∧r.1=r.2.done∧(r.1=false→r.2.meas<S.meas):=by
 have hwl:=h.wl;have hfb:=h.fb
 unfold bE.step at e
 split at e
 ·rename_i hd;cases e;exact⟨h,hu,rfl,rfl,rfl,rfl,hd.symm,fun hh=>by cases hh⟩
 rename_i hd
 have hd0:S.done=false:=by simpa using hd
 split at e
 ·rename_i w t ht
  obtain⟨r1,s1,e1,e⟩:=aH e
  cases e
  obtain⟨h1,_,h2,h3,h4,h5,h6,h7,h8,h9,h10⟩:=l9 h e1
  refine⟨⟨h1.c,h1.b,h1.rl,h1.to_,h1.scan,h1.free,h1.nd,h1.rng,h1.val,fun v hv=>h.todo v (by rw[ht];exact List.mem_cons_of_mem _ hv),h1.rts⟩,(jG hu e1).1,h5,h6,h7,h8,by simp only[h4,hd0],fun _=> ?_⟩
  unfold bE.meas
  simp only[ht,h2,h4,h5,List.length_cons]
  split<;>omega
 ·rename_i ht
  have hub:=pO (s.load S.scan)
  split at e
  ·rename_i hlt
   obtain⟨S1,s1,e1,e⟩:=aH e
   cases e
   obtain⟨h1,gu,h2,h3,h4,h5,h6,h7,h8,h9,h10⟩:=qS _ _ _ _ _ _ h hu ht e1
   have hsc:=h.scan
   refine⟨⟨h1.c,h1.b,h1.rl,h1.to_,⟨by have:=h1.scan;simp only;omega,by simp only;omega⟩,h1.free,h1.nd,h1.rng,h1.val,h1.todo,h1.rts⟩,gu,h5,h6,h7,h8,by simp only[h4,hd0],fun _=> ?_⟩
   unfold bE.meas
   simp only[ht,h2,h3,h4,h5]
   split<;>omega
  ·obtain⟨_,s1,e1,e⟩:=aH e
   cases e
   exact⟨⟨h.c,h.b,h.rl,h.to_,h.scan,h.free,h.nd,h.rng,h.val,h.todo,h.rts⟩,yN hu e1,rfl,rfl,rfl,rfl,rfl,fun hh=>by cases hh⟩
def CH(x bd:Nat)(sc:Int):HP:=hex fun (y:Nat→Value)=>row x [ptr bd,y 1,y 2,y 3,y 4,y 5,y 6,y 7,i64 sc,y 9,y 10,y 11,y 12] 247
theorem Da{B:World}{x:Nat}{S:bE}{Fr:List HP}{w:World}(h:Holds B (eQ x S::Fr) w):Holds B [CH x S.bd S.scan] w:=by
 obtain⟨p,hx⟩:=h.hex
 refine Holds.unhex (fun i=>(eP S p.1 p.2.1 p.2.2).getD i .nilIface) ?_
 have h2:=hx.grp
 exact h2.map fun k a=>by
  obtain⟨h1,h2,d,s1,s2,ha,hl⟩:=a
  exact⟨h1,h2,d,s1,s2,ha,trivial⟩
instance pL.colf {H Fr:List HP} {x:Nat} {S:bE} [r:pu H (eQ x S) Fr]:pL H [CH x S.bd S.scan]:=⟨fun h hh=>by
 obtain⟨i,h1,h2⟩:=r.get
 obtain⟨k1,k2,d,s1,s2,⟨p,hp⟩,hl⟩:=dw i h1 hh
 obtain⟨g1,g2,d',t1,t2,ha,hg⟩:=hp
 exact⟨g1,fun _=>none,fun _=> .inr aa,t1.trans s1,(fun _ _ e=>nomatch e),⟨fun i=>(eP S p.1 p.2.1 p.2.2).getD i .nilIface,ha⟩,trivial⟩⟩
theorem zx{B:World}{σ:Env}{P:Program}{α:Type}{A:α→HP}{o:Oper}{v:Value}(h:∀ y,Evs P B σ [A y] o v):Evs P B σ [hex A] o v:=fun a w kn hh=>by
 obtain⟨y,hy⟩:=hh.hex
 exact h y a w kn hy
theorem AJ{B:World}{n:Nat}{D:List Deferred}{σ:Env}{H H0:List HP}{P:Program}{ro:Cx}{K:Act→World→Prop}{X:Ext}{ops:Array Oper}{ms hs cs:List Nat}{ord:List Nat}{c:Bool}(f:∀ w,Holds B H w→Holds B H0 w)(h:GO B n D σ H (wpV P ro ops ms hs cs (Holds B H0) X K ord)):GO B n D σ H (fun a w=>(c=true→Holds B H0 w)∧wpV P ro ops ms hs cs (Holds B H0) X K ord a w):=fun a w s=>⟨fun _=>f w s.holds,h a w s⟩
theorem gx(f:Nat)(i e:Int)(s:Dev):lM (f+1) i e s=if i<e then (s.flush i).then fun _ s'=>lM f (i+8) e s' else .ok () s:=rfl
theorem hO(k:Nat)(i:Int)(S:bE)(s:Dev):jM (k+1) i S s=if s.load (S.scan+1+i)=0 then jM k (i+1) S s else (S.copied s (s.load (S.scan+1+i))).then fun r s1=>(s1.store (S.scan+1+i) r.1).then fun _ s2=>jM k (i+1) r.2 s2:=rfl
theorem iU(f:Nat)(S:bE)(s:Dev):ur (f+1) S s=(S.step s).then fun r s'=>if r.1=true then .ok r.2 s' else ur f r.2 s':=rfl
theorem zO(B:World)(Fr:List HP)(x:Nat)(S:bE)(hS:eX S)(s:Dev)(hu:U64 s):
 ∀ w,Holds B (eQ x S::aB S.bd s::Fr) w→Calls Tryz.prog 203 [ptr x].toArray w (Ret B (fun rv H'=>∃ r s',S.keep s= .ok r s'∧rv=Bq r∧H'=eQ x {S with done:=true}::aB S.bd s'::Fr) (fun c H'=>∃ s',S.keep s= .off s'∧c=dP∧H'=aB S.bd s'::Fr)):=by
 refine ao func203 aa ntmps203 aa (jB fun rsv tsv mw hrsv htsv=> ?_)
 have hfb:=hS.fb
 have hfr:=hS.free
 have hto:=hS.to_
 refine ac (ac (ab (kPf pd isAgg3 aa aa aa aa (kPa aa aa (ad (aF ?_))))))
 refine cC (ι:=Int×Nat×Dev) [0] (fun (i,n,sI)=>(S.to_≤i∧i≤400000)∧(S.free - i≤n)∧(lM ((S.free - S.to_).toNat+1) S.to_ S.free s=lM (n+1) i S.free sI)) (fun (i,n,sI)=>[(2,i64 i)]) (fun (i,n,sI)=>row x (eP S rsv tsv mw) 247::cS 0 (rsv,S.b.rts)::cS 0 (tsv,S.todo)::bu .u64 i64 mw S.went::aB S.bd sI::Fr) (fun (i,n,sI)=>n) (S.to_,(S.free - S.to_).toNat,s) (⟨⟨by first | omega | (simp only;omega),by first | omega | (simp only;omega)⟩,by first | omega | (simp only;omega),rfl⟩) (fun a w st=>st.to ⟨rfl,trivial⟩ (fun hh=>hh)) ?_
 rintro⟨i,n,sI⟩ ⟨hi0,hn,hinv⟩
 try simp only at hi0 hn hinv ⊢
 refine cg (σ':=[(2,i64 i),(0,_)]) ⟨rfl,rfl,trivial⟩ (ac (ac (ab (kPm aa aa (kPf ik isAgg3 aa aa aa aa (kPv (al aa aa aa) aa (ad ?_)))))))
 refine aZ aa (fun h12=> ?_) (fun h12=> ?_)
 ·have hlt:i<S.free:=by simpa using h12
  refine aq (ac (aF (ab (kPf gL isAgg90 aa aa aa aa (kPm aa aa ?_)))))
  refine aT aa (au call151 aa) (cD (fun Fr=>dx _ Fr _ _ _)) .free aa aa ?_ ?_
  rotate_left
  ·rintro _ _ ⟨s9,⟨hm9,rfl⟩,rfl⟩
   exact ba fun w hh=>⟨_,⟨s9,by unfold bE.keep;rw[hinv,gx,if_pos hlt,hm9];rfl,rfl,rfl⟩,(hh.dp [0,0,0,0])⟩
  rintro _ _ ⟨s1,⟨e1,hm1,rfl⟩,rfl⟩
  refine ad (am [2,0] rfl (ab (kPm aa aa (kPv (aL aa aa) aa (kPa aa aa (ad ?_))))))
  exact fun a w st_=>⟨(i+8,n - 1,s1),⟨by first | omega | (simp only;omega),by first | omega | (simp only;omega),by rw[hinv,gx,if_pos hlt,hm1,show n=n - 1+1 by omega];rfl⟩,by first | omega | (simp only;omega),st_.to ⟨rfl,rfl,trivial⟩ (fun hh=>hh)⟩
 ·have hlt:¬ i<S.free:=by simpa using h12
  refine bB (ac (ac (cK Tryz.mixed (by kernel_rfl) (by kernel_rfl) ?_)))
  refine kQm aa aa (kQv (aK aa) aa (kQv (aE (m:=_) ik aa aa) aa (kQv (ai isAgg3 aa aa) aa (kQm aa aa (kQv (aK aa) aa (kQv (aE (m:=_) pd aa aa) aa (kQv (ai isAgg3 aa aa) aa (kQv (al aa aa aa) aa (bZ (am [29,0] rfl ?_))))))))))
  refine aZ aa (fun h29=> ?_) (fun h29=> ?_)
  ·have hgt:S.to_<S.free:=by simpa using h29
   refine ab (kPf gL isAgg90 aa aa aa aa ?_)
   refine aT aa (au call152 aa) (cD (fun Fr=>eJ _ Fr _ _)) .free aa aa ?_ ?_
   rotate_left
   ·rintro _ _ ⟨s9,⟨hm9,rfl⟩,rfl⟩
    exact ba fun w hh=>⟨_,⟨s9,by unfold bE.keep;rw[hinv,gx,if_neg hlt];simp only[aQ];rw[if_pos hgt];exact hm9,rfl,rfl⟩,(hh.dp [0,0,0,0])⟩
   rintro _ _ ⟨s2,⟨e2,hm2,rfl⟩,rfl⟩
   refine ad (ab (kPm aa aa (kPv (aK aa) aa (kPv (aE (m:=_) ij aa aa) aa (kPs (aO sizeOf4 aa aa aa aa) aa (ad (am [] rfl ?_)))))))
   exact cP results203 (fun w hh=>⟨_,⟨(),_,by unfold bE.keep;rw[hinv,gx,if_neg hlt];simp only[aQ];rw[if_pos hgt];exact hm2,rfl,rfl⟩,cA (S:={S with done:=true}) hrsv htsv hh⟩)
  ·have hgt:¬ S.to_<S.free:=by simpa using h29
   refine aq (ab (kPm aa aa (kPv (aK aa) aa (kPv (aE (m:=_) ij aa aa) aa (kPs (aO sizeOf4 aa aa aa aa) aa (ad ?_))))))
   exact cP results203 (fun w hh=>⟨_,⟨(),_,by unfold bE.keep;rw[hinv,gx,if_neg hlt];simp only[aQ];rw[if_neg hgt],rfl,rfl⟩,cA (S:={S with done:=true}) hrsv htsv hh⟩)
theorem tK(B:World)(Fr:List HP)(x:Nat)(S:bE)(v:Int):
 ∀ w,Holds B (eQ x S::Fr) w→Calls Tryz.prog 118 [ptr x,w64 v].toArray w (a8 B (eQ x S::Fr) (i64 ((bJ S.went v).getD 0))):=by
 refine ao func118 aa ntmps118 aa (jB fun rsv tsv mw hrsv htsv=>(ac (ab (kPa aa aa (ad (ac (ab (kPf lV isAgg245 aa aa aa aa (kPm aa aa (kPv ((li runUnderlying245 runUnderlying25 zeroValue3 aa aa).eq (oC _)) aa (kPa aa aa ?_)))))))))))
 refine ad (am [4] rfl (ay ?_))
 exact ar results118 aa (fun w hh=>⟨rfl,cA hrsv htsv hh⟩)
theorem pi(B:World)(Fr:List HP)(x:Nat)(S:bE)(hS:eX S)(s:Dev)(hu:U64 s):
 ∀ w,Holds B (eQ x S::aB S.bd s::Fr) w→Calls Tryz.prog 166 [ptr x].toArray w (Ret B (fun rv H'=>∃ r s',S.step s= .ok r s'∧rv= .bool r.1∧H'=eQ x r.2::aB S.bd s'::Fr) (fun c H'=>∃ s',S.step s= .off s'∧c=dP∧H'=aB S.bd s'::Fr)):=by
 refine ao func166 aa ntmps166 aa (jB fun rsv tsv mw hrsv htsv=> ?_)
 have hfb:=hS.fb
 have hfr:=hS.free
 have hto:=hS.to_
 have hscan:=hS.scan
 have hub:=pO (s.load S.scan)
 refine ac (ab (kPa aa aa (ad (ac (aF (ac (ab (kPf ij isAgg4 aa aa aa aa (kPa aa aa (ad ?_))))))))))
 refine aZ aa (fun h9=> ?_) (fun h9=> ?_)
 ·have hdone:S.done=true:=h9
  have hres:S.step s= .ok (true,S) s:=by unfold bE.step;rw[if_pos hdone]
  refine aq (ac (ab (kPf ij isAgg4 aa aa aa aa (kPa aa aa (ad (am [2] rfl (ay ?_)))))))
  exact ar results166 aa (fun w hh=>⟨_,⟨_,_,hres,by rw[hdone],rfl⟩,cA hrsv htsv hh⟩)
 ·have hdone:S.done=false:=h9
  refine aR [2] (cB fun qt ct hqt hqi=> ?_)
  subst hqt
  refine aR [1,1,0,0] (ac (ab (kPf lW isAgg30 aa aa aa aa (kPv (bD aa runUnderlying30 ⟨_,rfl⟩ rfl) aa (kPv (al aa aa aa) aa (kPa aa aa (ad (am [14,2,0] rfl ?_))))))))
  refine aZ aa (fun h14=> ?_) (fun h14=> ?_)
  ·obtain⟨v,t,htd⟩:∃ v t,S.todo=v::t:=by
    cases ht:S.todo with
    | nil=>rw[ht] at h14;simp at h14
    | cons v t=>exact⟨v,t,rfl⟩
   obtain⟨bq,oq,rfl⟩:=hqi 0 (by rw[htd];exact Nat.succ_pos _)
   refine ac (ab (kPm aa aa (kPf lW isAgg30 aa aa aa aa (kPv (cq runUnderlying30 sizeOf25 aa aa (by decide) (by rw[htd];simp only[List.length_cons];omega)) aa (kPv (bP (v:=w64 v) isAgg25 (cM 2 aa) aa (by rw[htd];rfl)) aa (aN (fun w hh=>cA hrsv htsv hh) ?_))))))
   refine aT aa (au call202 aa) (pn B _ x S hS s hu v (hS.todo _ (by rw[htd];exact List.mem_cons_self ..))) .free aa aa ?_ ?_
   rotate_left
   ·rintro _ _ ⟨s9,hm9,rfl,rfl⟩
    exact ba fun w hh=>⟨_,⟨s9,by unfold bE.step;rw[if_neg (by rw[hdone];decide)];simp only[htd];rw[hm9];rfl,rfl,rfl⟩,hh⟩
   rintro _ _ ⟨r1,s1,hm1,rfl,rfl⟩
   obtain⟨hS1,hrv1,hsc1,htd1,hdn1,hb1,hbd1,hc1,hto1,hfr1,hms1⟩:=l9 hS hm1
   have hu1:=(jG hu hm1).1
   refine ad (am [2,0] rfl (ab (jB fun rsv2 tsv2 mw2 hrsv2 htsv2=>(kPm aa aa (kPm aa aa (kPv (aK aa) aa (kPv (aE (m:=_) lW aa aa) aa (aR [2] (aN (H':=cS 0 (tsv2,v::t)::_) (fun w hh=>by rw[htd1,htd] at hh;exact hh) (kPv (ai isAgg30 aa aa) aa (cJ aa (tT (v:=v) (xs:=t) runUnderlying30 sizeOf25 aa aa) .free aa aa ?_)))))))))))
   rintro tv3 _ ⟨htv3,rfl⟩
   refine aR [1,1] (kPv (aK aa) aa (kPv (aE (m:=_) lW aa aa) aa ?_))
   refine kPs (aO sizeOf30 aa aa (by first | rfl | assumption) rfl) rfl ?_;refine ad ?_;refine am [2,0] rfl ?_;refine ac ?_;refine ab ?_;refine kPf ij isAgg4 aa aa aa aa ?_;refine kPa aa aa ?_;refine ad ?_;refine ay ?_
   exact ar results166 aa (fun w hh=>⟨_,⟨_,_,by unfold bE.step;rw[if_neg (by rw[hdone];decide)];simp only[htd];rw[hm1];rfl,by rw[hdn1,hdone],rfl⟩,cA (S:={r1.2 with todo:=t}) hrsv2 htv3 hh⟩)
  ·have htd:S.todo=[]:=by
    cases ht:S.todo with
    | nil=>rfl
    | cons v t=>rw[ht] at h14;simp at h14<;>omega
   refine ac (cK Tryz.mixed (by kernel_rfl) (by kernel_rfl) ?_)
   refine kQm aa aa (kQv (aK aa) aa (kQv (aE (m:=_) i7 aa aa) aa (kQv (ai isAgg3 aa aa) aa (kQm aa aa (kQv (aK aa) aa (kQv (aE (m:=_) ik aa aa) aa (kQv (ai isAgg3 aa aa) aa (kQv (al aa aa aa) aa (kQa aa aa (bZ (am [37,2,0] rfl ?_)))))))))))
   refine aZ aa (fun h37=> ?_) (fun h37=> ?_)
   ·have hlt:S.scan<S.free:=by simpa using h37
    have hstep:S.step s=(jM (unp (s.load S.scan)).2.1.toNat 0 S s).then fun S' s'=> .ok (false,{S' with scan:=S'.scan+((unp (s.load S.scan)).1+1)}) s':=by unfold bE.step;rw[if_neg (by rw[hdone];decide)];simp only[htd];rw[if_pos hlt]
    refine ac ?_
    refine kI (.br [0,1,2,3,4,5,6,7] 8 (.br [] 9 (.fin [10,11,12,13,14,15]) 13 (.fin [9,10,11,12,14,15])) 13 (.fin [8,9,10,11,12,14,15])) [8,9,13,14] [0,1,2,3,4,5,6,7,10,11,12] [13,14] [row x (eP S rsv (.slice qt S.todo.length ct) mw) 247] [2,0] (G:=Nat) (fun b3=>[(3,ptr b3),(4,.bool (unp (s.load S.scan)).2.2)]) (fun b3=>row b3 [i64 (unp (s.load S.scan)).1,i64 (unp (s.load S.scan)).2.1] 102::row x (eP S rsv (.slice qt S.todo.length ct) mw) 247::cS 0 (rsv,S.b.rts)::cS 0 (.slice qt S.todo.length ct,S.todo)::bu .u64 i64 mw S.went::aB S.bd s::Fr) Tryz.mixed (by kernel_rfl) ?_ ?_
    ·skip
     refine wJ (an aa aa aa (aj aa) .free aa (an aa aa aa (aK aa) .free aa (an aa aa aa (aE (m:=_) gL aa aa) .free aa (an aa aa aa (ai isAgg90 aa aa) .free aa (an aa aa aa (aj aa) .free aa (an aa aa aa (aK aa) .free aa (an aa aa aa (aE (m:=_) i7 aa aa) .free aa (an aa aa aa (ai isAgg3 aa aa) .free aa (cF ?_)))))))))
     refine pP aa aa ?_ ?_
     ·skip
      refine ax aa (au call173 aa) (bG (q:=aB) (fun Fr=>cm _ Fr _ _ _)) .free aa aa ?_
      refine ad (rV aa (wJ (cF ?_)))
      refine pP aa aa ?_ ?_
      ·skip
       refine ax aa (au call190 aa) (iQ _ _ _) .free aa aa ?_
       refine ad (rV aa (jL (an aa aa aa (aj aa) .free aa (an aa aa aa (aA aa aa) .free aa (an aa aa aa (aA aa aa) .free aa (aS aa aa (kPb (aD zeroValue102 aa) aa fun b3=>(ad (cO (aS aa aa (kPs (az (vs:=_) sizeOf102 aa aa aa aa aa) aa ?_)))))))))))
       refine ad (cO (aU aa aa aa (bC aa) .free aa (cF ?_)))
       exact fun a w st_=>⟨b3,st_.to (aC aa) (fun hh=>hh)⟩
      ·skip
       refine kPb (aD zeroValue102 aa) aa fun b3=>(ad (ug (jL (aS aa aa (ax aa (au call190 aa) (iQ _ _ _) .free aa aa ?_)))))
       refine ad (c6 aa (an aa aa aa (aj aa) .free aa (an aa aa aa (aA aa aa) .free aa (an aa aa aa (aA aa aa) .free aa (aS aa aa (kPs (az (vs:=_) sizeOf102 aa aa aa aa aa) aa (ad (cO (aU aa aa aa (bC aa) .free aa (cF ?_))))))))))
       exact fun a w st_=>⟨b3,st_.to (aC aa) (fun hh=>hh)⟩
     ·skip
      refine kPb (aD zeroValue102 aa) aa fun b3=>(ad (ug (jL (aS aa aa (ax aa (au call173 aa) (bG (q:=aB) (fun Fr=>cm _ Fr _ _ _)) .free aa aa ?_)))))
      refine ad (c6 aa (aS aa aa (ax aa (au call190 aa) (iQ _ _ _) .free aa aa ?_)))
      refine ad (c6 aa (an aa aa aa (aj aa) .free aa (an aa aa aa (aA aa aa) .free aa (an aa aa aa (aA aa aa) .free aa (aS aa aa (kPs (az (vs:=_) sizeOf102 aa aa aa aa aa) aa (ad (cO (aU aa aa aa (bC aa) .free aa (cF ?_))))))))))
      exact fun a w st_=>⟨b3,st_.to (aC aa) (fun hh=>hh)⟩
    intro b3
    refine cg (σ':=[(3,ptr b3),(4,.bool (unp (s.load S.scan)).2.2),(2,_),(0,_)]) (aC aa) (ac (ac (aR [1,1,1,1] (aN (fun w hh=>cA hrsv htsv hh) (ab (kPl fU isAgg3 aa aa aa aa (kPm aa aa (ad (aF ?_)))))))))
    refine cC (ι:=Nat×bE×Dev) [61,3,2,0] (fun (i,SI,sI)=>((i:Int)≤(unp (s.load S.scan)).2.1)∧(eX SI)∧(U64 sI)∧(SI.todo=[])∧(SI.done=S.done)∧(SI.bd=S.bd)∧(SI.scan=S.scan)∧(jM (unp (s.load S.scan)).2.1.toNat 0 S s=jM ((unp (s.load S.scan)).2.1.toNat - i) i SI sI)) (fun (i,SI,sI)=>[(62,i64 i)]) (fun (i,SI,sI)=>row b3 [i64 (unp (s.load S.scan)).1,i64 (unp (s.load S.scan)).2.1] 102::eQ x SI::aB SI.bd sI::Fr) (fun (i,SI,sI)=>(unp (s.load S.scan)).2.1.toNat - i) (0,S,s) (⟨by first | omega | (simp only;omega),hS,hu,htd,rfl,rfl,rfl,rfl⟩) (fun a w st=>st.to ⟨rfl,trivial⟩ (fun hh=>(hh.pk [1]))) ?_
    rintro⟨i,SI,sI⟩ ⟨hi0,hSI,huI,htdI,hdI,hbdI,hscI0,hinv⟩
    try simp only at hi0 hSI huI htdI hdI hbdI hscI0 hinv ⊢
    refine cg (σ':=[(62,i64 i),(61,_),(3,_),(2,_),(0,_)]) (aC aa) (ac (ab (kPv (al aa aa aa) aa (ad (ac ?_)))))
    refine aZ aa (fun h63=> ?_) (fun h63=> ?_)
    ·have hi:(i:Int)<(unp (s.load S.scan)).2.1:=by simpa using h63
     have hscI:=hSI.scan
     refine aq (ac (aF (ac (ab (kPm aa aa (kPa aa aa (ad (ac (aR [1] (jB fun rsv2 tsv2 mw2 hrsv2 htsv2=>(cK Tryz.mixed (by kernel_rfl) (by kernel_rfl) ?_)))))))))))
     refine kQm aa aa (kQv (aK aa) aa (kQv (aE (m:=_) gL aa aa) aa (kQv (ai isAgg90 aa aa) aa (kQm aa aa (kQv (aK aa) aa (kQv (aE (m:=_) i7 aa aa) aa (kQv (ai isAgg3 aa aa) aa (kQv (aL aa aa) aa (kQm aa aa (kQv (aL aa aa) aa (bF aa (au call173 aa) (bG (q:=aB) (fun Fr=>cm _ Fr _ _ _)) .free aa ?_)))))))))))
     refine kQa aa aa (bZ (am [6,5,62,61,3,2,0] rfl (ac (aN (fun w hh=>cA hrsv2 htsv2 hh) (ab (kPm aa aa (kPv (al aa aa aa) aa (ad ?_))))))))
     refine aZ aa (fun h78=> ?_) (fun h78=> ?_)
     ·have hne:¬ sI.load (SI.scan+1+i)=0:=by simpa using h78
      refine aR [0,1] (aN (fun w hh=>hh) (cN [0,1,2,3,4,5,6,7,8,9,10,11,12,13,14,15] [13,15] [0,1,2,3,4,5,6,7,8,9,10] [13] [CH x SI.bd SI.scan] Tryz.mixed (by kernel_rfl) ?_))
      refine an aa aa aa (aj aa) .free aa (an aa aa aa (aK aa) .free aa (an aa aa aa (aE (m:=_) gL aa aa) .free aa (an aa aa aa (zx fun y=>ai isAgg90 aa aa) .free aa (an aa aa aa (aj aa) .free aa (an aa aa aa (aK aa) .free aa (an aa aa aa (aE (m:=_) i7 aa aa) .free aa (an aa aa aa (zx fun y=>ai isAgg3 aa aa) .free aa (an aa aa aa (aL aa aa) .free aa (an aa aa aa (aj aa) .free aa (an aa aa aa (aL aa aa) .free aa (aU aa aa aa (aj aa) .free aa ?_)))))))))))
      refine aU aa aa aa (aj aa) .free aa (aS aa aa ?_)
      refine aT aa (au call202 aa) (pn B _ x SI hSI sI huI (sI.load (SI.scan+1+i)) (huI.load _)) .free aa aa ?_ ?_
      rotate_left
      ·rintro _ _ ⟨s9,hm9,rfl,rfl⟩
       exact ba fun w hh=>⟨_,⟨s9,by rw[hstep,hinv,show(unp (s.load S.scan)).2.1.toNat - i=((unp (s.load S.scan)).2.1.toNat - (i+1))+1 by omega,hO,if_neg hne,hm9];rfl,rfl,rfl⟩,by rw[←hbdI];exact hh.dp [1]⟩
      rintro _ _ ⟨r2,s2,hm2,rfl,rfl⟩
      obtain⟨hS2,hrv2,hsc2,htd2,hdn2,hb2,hbd2,hc2,hto2,hfr2,hms2⟩:=l9 hSI hm2
      have hu2:=(jG huI hm2).1
      refine ad (AJ (fun w hh=>by have h5:=Da hh;rw[hbd2,hsc2] at h5;exact h5) (aU aa aa aa (cX runUnderlying3 runUnderlying25 aa (dT (by omega))) .free aa (aS aa aa ?_)))
      refine aT aa (au call145 aa) (cD (fun Fr=>cy _ Fr _ _ _ _)) .free aa aa ?_ ?_
      rotate_left
      ·rintro _ _ ⟨s9,⟨hm9,rfl⟩,rfl⟩
       exact ba fun w hh=>⟨_,⟨s9,by rw[hstep,hinv,show(unp (s.load S.scan)).2.1.toNat - i=((unp (s.load S.scan)).2.1.toNat - (i+1))+1 by omega,hO,if_neg hne,hm2];simp only[aQ];rw[hm9];rfl,rfl,rfl⟩,by rw[←hbdI];exact(hh.dp [0,1])⟩
      rintro _ _ ⟨s3,⟨e3,hm3,rfl⟩,rfl⟩
      refine ad (c6 aa (cF (am [62,61,3,2,0] rfl (ab (kPv (aL aa aa) aa (kPm aa aa (ad ?_)))))))
      exact fun a w st_=>⟨(i+1,r2.2,s3),⟨by first | omega | (simp only;omega),hS2,(cu hu2 (by omega) hm3).1,htd2.trans htdI,hdn2.trans hdI,hbd2.trans hbdI,hsc2.trans hscI0,by rw[hinv,show(unp (s.load S.scan)).2.1.toNat - i=((unp (s.load S.scan)).2.1.toNat - (i+1))+1 by omega,hO,if_neg hne,hm2];simp only[aQ];rw[hm3];rfl⟩,by first | omega | (simp only;omega),st_.to (aC aa) (fun hh=>(by first | exact(hh.pk [2]) | (simp only[hbd2];exact(hh.pk [2]))))⟩
     ·have hne:sI.load (SI.scan+1+i)=0:=by simpa using h78
      refine aq (ab (kPv (aL aa aa) aa (kPm aa aa (ad ?_))))
      exact fun a w st_=>⟨(i+1,SI,sI),⟨by first | omega | (simp only;omega),hSI,huI,htdI,hdI,hbdI,hscI0,by rw[hinv,show(unp (s.load S.scan)).2.1.toNat - i=((unp (s.load S.scan)).2.1.toNat - (i+1))+1 by omega,hO,if_pos hne];rfl⟩,by first | omega | (simp only;omega),st_.to (aC aa) (fun hh=>(by first | exact(hh.pk [1]) | (simp only[hbd2];exact(hh.pk [1]))))⟩
    ·have hi:¬ (i:Int)<(unp (s.load S.scan)).2.1:=by simpa using h63
     have hscI:=hSI.scan
     refine bB (aR [1] (jB fun rsv3 tsv3 mw3 hrsv3 htsv3=>(cW 9 Tryz.mixed (by kernel_rfl) (by kernel_rfl) ?_)))
     refine kQm aa aa (kQv (aK aa) aa (kQv (aE (m:=_) i7 aa aa) aa (kQv (ai isAgg3 aa aa) aa (kQv (ah isAgg102 sizeOf102 aa aa) aa ?_))))
     refine bF aa (au call139 aa) (eD _ _ _ _ (by omega)) .free aa ?_
     refine kQv (aL aa aa) aa (kQv (aK aa) aa (kQv (aE (m:=_) i7 aa aa) aa (bZ (kPs (aO sizeOf3 aa aa aa aa) aa (ad (am [2,0] rfl (ac (ab (kPf ij isAgg4 aa aa aa aa (kPa aa aa (ad ?_)))))))))))
     refine ay ?_
     exact ar results166 aa (fun w hh=>⟨_,⟨_,_,by rw[hstep,hinv,show(unp (s.load S.scan)).2.1.toNat - i=0 by omega];rfl,by rw[hdI,hdone],rfl⟩,by rw[←hbdI];exact cA (S:={SI with scan:=SI.scan+((unp (s.load S.scan)).1+1)}) hrsv3 htsv3 (hh.dp [4])⟩)
   ·have hlt:¬ S.scan<S.free:=by simpa using h37
    refine aN (fun w hh=>cA hrsv htsv hh) (ab (kPm aa aa ?_))
    refine aT aa (au call203 aa) (zO B _ x S hS s hu) .free aa aa ?_ ?_
    rotate_left
    ·rintro _ _ ⟨s9,hm9,rfl,rfl⟩
     exact ba fun w hh=>⟨_,⟨s9,by unfold bE.step;rw[if_neg (by rw[hdone];decide)];simp only[htd];rw[if_neg hlt,hm9];rfl,rfl,rfl⟩,hh⟩
    rintro _ _ ⟨r1,s1,hm1,rfl,rfl⟩
    refine jB fun rsv4 tsv4 mw4 hrsv4 htsv4=>(ad (ac (ab (kPf ij isAgg4 aa aa aa aa (kPa aa aa (ad (am [2] rfl (ay ?_))))))))
    exact ar results166 aa (fun w hh=>⟨_,⟨(true,{S with done:=true}),s1,by unfold bE.step;rw[if_neg (by rw[hdone];decide)];simp only[htd];rw[if_neg hlt,hm1];rfl,rfl,rfl⟩,cA (S:={S with done:=true}) hrsv4 htsv4 hh⟩)
theorem oa:∀ (f:Nat) (S S':bE) (s s':Dev),eX S→U64 s→ur f S s= .ok S' s'→eX S'∧U64 s'∧S'.b=S.b∧S'.bd=S.bd∧S'.c=S.c∧S'.to_=S.to_
 | 0,S,S',s,s',h,hu,e=>by cases e;exact⟨h,hu,rfl,rfl,rfl,rfl⟩
 | f+1,S,S',s,s',h,hu,e=>by
   rw[iU] at e
   obtain⟨r,s1,e1,e⟩:=aH e
   obtain⟨h1,u1,g1,g2,g3,g4,_⟩:=qL h hu e1
   split at e
   ·cases e;exact⟨h1,u1,g1,g2,g3,g4⟩
   ·obtain⟨k1,k2,k3,k4,k5,k6⟩:=oa f _ _ _ _ h1 u1 e
    exact⟨k1,k2,k3.trans g1,k4.trans g2,k5.trans g3,k6.trans g4⟩
theorem pE{α β:Type}{f:α→β}{l:List α}{k:Nat}(hk:k<l.length):(l.take (k+1)).map f=(l.take k).map f++[f l[k]]:=by
 rw[List.take_succ_eq_append_getElem hk,List.map_append];rfl
theorem lK{bd:Nat}{c:Cfg}{b:Blk}{ws:List Int}(hc:bx c)(hb:gb c b)(hl:b.rts.length≤16)(hr:∀ v∈b.rts,0≤v∧v<18446744073709551616)(hw:∀ v∈ws,0≤v∧v<18446744073709551616):eX (ee bd c b ws):=by
 have h1:=hb.act
 have h2:=iB hc (k:=1 - b.act) (by omega)
 have h3:=hc.s1
 have h4:0≤c.frm (1 - b.act)∧c.frm (1 - b.act)≤20000:=by omega
 exact⟨hc,hb,hl,h4,⟨Int.le_refl _,by unfold ee;simp only;omega⟩,⟨Int.le_refl _,by simp[ee]⟩,List.nodup_nil,fun _ h=>(by cases h),fun _ h=>(by cases h),hw,hr⟩
theorem wx(B:World)(Fr:List HP)(x:Nat)(S:bE)(hS:eX S)(s:Dev)(hu:U64 s):
 ∀ w,Holds B (eQ x S::aB S.bd s::Fr) w→Calls Tryz.prog 135 [ptr x].toArray w (Ret B (fun rv H'=>∃ r s',S.run s= .ok r s'∧rv= .tuple #[]∧H'=eQ x r::aB S.bd s'::Fr) (fun c H'=>∃ s',S.run s= .off s'∧c=dP∧H'=aB S.bd s'::Fr)):=by
 refine ao func135 aa ntmps135 aa (aF (cC (ι:=Nat×bE×Dev) [0] (fun (n,SI,sI)=>(SI.meas<n)∧(eX SI)∧(U64 sI)∧(SI.bd=S.bd)∧(ur (S.meas+1) S s=ur n SI sI)) (fun (n,SI,sI)=>[]) (fun (n,SI,sI)=>eQ x SI::aB SI.bd sI::Fr) (fun (n,SI,sI)=>n) (S.meas+1,S,s) (⟨Nat.lt_succ_self _,hS,hu,rfl,rfl⟩) (fun a w st=>st.to trivial (fun hh=>hh)) ?_))
 rintro⟨n,SI,sI⟩ ⟨hn,hSI,huI,hbdI,hinv⟩
 try simp only at hn hSI huI hbdI hinv ⊢
 refine cg (σ':=[(0,_)]) ⟨rfl,trivial⟩ (ac (ac (ab (kPm aa aa ?_))))
 refine aT aa (au call166 aa) (pi B _ x SI hSI sI huI) .free aa aa ?_ ?_
 rotate_left
 ·rintro _ _ ⟨s9,hm9,rfl,rfl⟩
  exact ba fun w hh=>⟨_,⟨s9,by unfold bE.run;rw[hinv,show n=n - 1+1 by omega,iU,hm9];rfl,rfl,rfl⟩,by rw[←hbdI];exact hh⟩
 rintro _ _ ⟨r1,s1,hm1,rfl,rfl⟩
 obtain⟨hS1,hu1,hb1,hbd1,hc1,hto1,hr1,hms1⟩:=qL hSI huI hm1
 refine kPv (bj aa) aa (ad ?_)
 refine aZ aa (fun h4=> ?_) (fun h4=> ?_)
 ·have hg:r1.1=false:=by simpa using h4
  refine aq (aF (aq ?_))
  exact fun a w st_=>⟨(n - 1,r1.2,s1),⟨by have:=hms1 hg;first | omega | (simp only;omega),hS1,hu1,hbd1.trans hbdI,by rw[hinv,show n=n - 1+1 by omega,iU,hm1];simp only[aQ];rw[if_neg (by rw[hg];decide)];rfl⟩,by first | omega | (simp only;omega),st_.to ⟨rfl,trivial⟩ (fun hh=>(by simp only[hbd1];exact hh))⟩
 ·have hg:r1.1=true:=by simpa using h4
  refine bB ?_
  exact cP results135 (fun w hh=>⟨_,⟨_,_,by unfold bE.run;rw[hinv,show n=n - 1+1 by omega,iU,hm1];simp only[aQ];rw[if_pos hg],rfl,rfl⟩,by rw[←hbdI];exact hh⟩)
theorem mH(B:World)(Fr:List HP)(x:Nat)(S:bE)(hS:eX S):
 ∀ w,Holds B (eQ x S::Fr) w→Calls Tryz.prog 167 [ptr x].toArray w (Ret B (fun rv H'=>∃ sv,aM sv=true∧rv=lp S.block sv∧H'=cS 0 (sv,S.block.rts)::eQ x S::Fr) (fun _ _=>False)):=by
 refine ao func167 aa ntmps167 aa ?_
 have hfb:=hS.fb
 have hfr:=hS.free
 have hto:=hS.to_
 have hba:=hS.b.act
 have hrl:=hS.rl
 refine ac (ab (kPb (aD zeroValue151 aa) aa fun b2=>(ad (ac (aR [1] (jB fun rsv tsv mw hrsv htsv=> ?_))))))
 refine kI (.fin [0,1,2,3,4,5,6,7,8,9,10,11,12,13,14,15,16,17]) [16,17] [0,1,2,3,4,5,6,7,8,9,10,11,12,13,14,15] [16] [row x (eP S rsv tsv mw) 247] [2,0] (G:=Nat) (fun b3=>[(3,ptr b3)]) (fun b3=>row b3 [i64 (1 - S.b.act),i64 (S.free - S.to_),.slice none 0 0] 151::row x (eP S rsv tsv mw) 247::cS 0 (rsv,S.b.rts)::cS 0 (tsv,S.todo)::bu .u64 i64 mw S.went::row b2 [i64 0,i64 0,.slice none 0 0] 151::Fr) Tryz.mixed (by kernel_rfl) ?_ ?_
 ·skip
  refine jL (an aa aa aa (aj aa) .free aa (an aa aa aa (aK aa) .free aa (an aa aa aa (aE (m:=_) lX aa aa) .free aa (an aa aa aa (aE (m:=_) im aa aa) .free aa (an aa aa aa (ai isAgg3 aa aa) .free aa (an aa aa aa (eY aa aa) .free aa (an aa aa aa (aj aa) .free aa (an aa aa aa (aK aa) .free aa (an aa aa aa (aE (m:=_) ik aa aa) .free aa (an aa aa aa (ai isAgg3 aa aa) .free aa (an aa aa aa (aj aa) .free aa ?_)))))))))))
  refine an aa aa aa (aK aa) .free aa (an aa aa aa (aE (m:=_) pd aa aa) .free aa (an aa aa aa (ai isAgg3 aa aa) .free aa (an aa aa aa (eY aa aa) .free aa (an aa aa aa (aP aa (nh _ _ aa aa)) .free aa (aS aa aa (kPb (aD zeroValue151 aa) aa fun b3=>(ad (cO (aS aa aa ?_)))))))))
  refine kPs (az (vs:=_) sizeOf151 aa aa aa (by first | rfl | exact et (by assumption)) rfl) rfl ?_;refine ad ?_;refine c6 aa ?_;refine cF ?_
  exact fun a w st_=>⟨b3,st_.to (aC aa) (fun hh=>hh)⟩
 intro b3
 refine cg (σ':=[(3,ptr b3),(2,_),(0,_)]) (aC aa) (ac (ac (aR [2] (cB fun qr cr hqr hqi=> ?_))))
 subst hqr
 refine aR [1,1,0,0,0,0] (aN (fun w hh=>eI (T:=25) (enc:=w64) hh) (ab (kPm aa aa (kPv (aK aa) aa (kPv (aE (m:=_) lX aa aa) aa (kPl eU isAgg30 aa aa aa aa (kPv (bD aa runUnderlying30 ⟨_,rfl⟩ rfl) aa (kPm aa aa (ad (aF (cC (ι:=Nat×Value) [27,26,3,2,0] (fun (k,bv)=>(k≤S.b.rts.length)∧(aM bv=true)) (fun (k,bv)=>[(28,i64 k)]) (fun (k,bv)=>cS 0 (bv,(S.b.rts.take k).map (fun w=>(bJ S.went w).getD 0))::row b3 [i64 (1 - S.b.act),i64 (S.free - S.to_),bv] 151::row x (eP S (.slice qr S.b.rts.length cr) tsv mw) 247::cS 0 (.slice qr S.b.rts.length cr,S.b.rts)::cS 0 (tsv,S.todo)::bu .u64 i64 mw S.went::row b2 [i64 0,i64 0,.slice none 0 0] 151::Fr) (fun (k,bv)=>S.b.rts.length - k) (0,.slice none 0 0) (⟨Nat.zero_le _,rfl⟩) (fun a w st=>st.to ⟨rfl,trivial⟩ (fun hh=>hh)) ?_)))))))))))
 rintro⟨k,bv⟩ ⟨hk0,hbv⟩
 try simp only at hk0 hbv ⊢
 refine cg (σ':=[(28,i64 k),(27,_),(26,_),(3,_),(2,_),(0,_)]) (aC aa) (ac (ab (kPv (al aa aa aa) aa (ad (ac ?_)))))
 refine aZ aa (fun h29=> ?_) (fun h29=> ?_)
 ·have hk:k<S.b.rts.length:=by simp at h29;omega
  obtain⟨bq,oq,rfl⟩:=hqi k hk
  have hvb:=hS.vb S.b.rts[k]
  refine aq (ac (aF (ac (ab (kPv (cq runUnderlying30 sizeOf25 aa aa (by omega) (by omega)) aa ?_)))))
  refine kPv (bP (v:=w64 S.b.rts[k]) isAgg25 (cM 3 aa) aa (by rw[Int.toNat_natCast,List.getElem?_map,List.getElem?_eq_getElem hk];rfl)) aa ?_
  refine kPa aa aa (ad (cN [0,1,2,3,4,5,6,7,8,9,10,11,12] [9,10,12] [0,1] [9] [row b3 [i64 (1 - S.b.act),i64 (S.free - S.to_),bv] 151,row x (eP S (.slice (some ⟨bq,oq,none⟩) S.b.rts.length cr) tsv mw) 247,bu .u64 i64 mw S.went] Tryz.mixed (by kernel_rfl) ?_))
  refine an aa aa aa (aE (m:=_) eU aa aa) .free aa (an aa aa aa (ai isAgg30 aa aa) .free aa (aU aa aa aa (aj aa) .free aa (aU aa aa aa (aK aa) .free aa (aU aa aa aa (aE (m:=_) lV aa aa) .free aa (aU aa aa aa (ai isAgg245 aa aa) .free aa (aU aa aa aa (aj aa) .free aa (aU aa aa aa ((li runUnderlying245 runUnderlying25 zeroValue3 aa aa).eq (oC _)) .free aa (aU aa aa aa (cX runUnderlying3 runUnderlying25 aa (dT (by omega))) .free aa (aS aa aa (kPb (fW runUnderlying30 sizeOf25 zeroValue25 aa aa aa) aa fun b41=>(aR [1,0] ?_)))))))))))
  refine ad (cO (aS aa aa (cJ aa (ea aa aa runUnderlying30 runUnderlying30 ⟨_,rfl⟩ sizeOf25 zeroValue25 aa (fun _=>rfl) hG aa aa (by simp;omega)) .free aa aa ?_)))
  rintro bv2 _ ⟨hbv2,rfl⟩
  refine ad (c6 aa (aU aa aa aa (aE (m:=_) eU aa aa) .free aa (aS aa aa ?_)))
  refine kPs (aO sizeOf30 aa aa (by first | rfl | assumption) rfl) rfl ?_;refine ad ?_;refine c6 aa ?_;refine cF ?_;refine am [28,27,26,3,2,0] rfl ?_;refine ab ?_;refine kPv (aL aa aa) aa ?_;refine kPm aa aa ?_;refine ad ?_
  exact fun a w st_=>⟨(k+1,bv2),⟨by first | omega | (simp only;omega),hbv2⟩,by first | omega | (simp only;omega),st_.to (aC aa) (fun hh=>(by simp only[pE hk];exact hh))⟩
 ·have hk:¬ k<S.b.rts.length:=by simp at h29;omega
  obtain rfl:k=S.b.rts.length:=by omega
  rw[List.take_length]
  refine bB (ac (ab (kPv (ah isAgg151 sizeOf151 aa aa) aa ?_)))
  refine kPs (az (vs:=_) sizeOf151 aa aa aa (by first | rfl | exact et (by assumption)) rfl) rfl ?_;refine ad ?_;refine am [2] rfl ?_;refine ay ?_
  exact pT results167 (.cellA aa isAgg151 sizeOf151 aa aa) (fun w hh=>⟨_,⟨bv,hbv,rfl,rfl⟩,(cA (S:=S) hrsv htsv ((hh.dp [1,5]).pk [1,1,1,1])).pk [1]⟩)
theorem tS(B:World)(Fr:List HP)(cap:Nat):
 ∀ w,Holds B Fr w→Calls Tryz.prog 178 [.slice none 0 cap].toArray w (a8 B Fr (.slice none 0 0)):=by
 refine ao func178 aa ntmps178 aa (ac (ab (kPa aa aa (ad (ac (ac (ab (kPm aa aa (kPv (wp runUnderlying30 aa aa aa) aa (ad (tq aa (rfl) ?_)))))))))))
 refine ac (ab (kPa aa aa (ad (ay ?_))))
 exact ar results178 aa (fun w hh=>⟨rfl,hh⟩)
theorem ne(B:World)(Fr:List HP)(q:Option Addr)(cap:Nat)(xs:List Int)(hn:xs.length≤1000000)(hq:q=none→xs=[])(hr:SlR B Fr (.slice q xs.length cap) (xs.map w64)):∀ w,Holds B Fr w→Calls Tryz.prog 178 [.slice q xs.length cap].toArray w (Ret B (fun rv H'=>aM rv=true∧H'=cS 0 (rv,xs)::Fr) (fun _ _=>False)):=by
 intro w hw
 cases q with
 | none=>
   have:=hq rfl
   subst this
   exact(tS B Fr cap w hw).mono fun e w' h=>by obtain⟨rfl,h⟩:=h;exact⟨_,⟨rfl,rfl⟩,eI h⟩
 | some a=>
   refine(ll B Fr (some a) xs.length cap (xs.map w64) (by simp) (by simpa using hn) (by rw[List.all_eq_true];intro v hv;obtain⟨x,_,rfl⟩:=List.mem_map.1 hv;rfl) hr w hw).mono fun e w' h=> ?_
   cases e with
   | returned v=>
     obtain⟨H',⟨bn,rest,rfl,rfl⟩,h⟩:=h
     exact⟨_,⟨rfl,rfl⟩,gV aa aa h⟩
   | panicked c=>obtain⟨_,h,_⟩:=h;exact h.elim
   | outgrown=>exact h.elim
theorem rC(B:World)(Fr:List HP)(bd:Nat)(c:Cfg)(hc:bx c)(b:Blk)(hb:gb c b)(sv:Value)(hsv:aM sv=true)(q:Option Addr)(cap:Nat)(ws:List Int)(hwn:ws.length≤1000000)(hwq:q=none→ws=[])(hwl:SlR B (cS 0 (sv,b.rts)::Fr) (.slice q ws.length cap) (ws.map w64)):
 ∀ w,Holds B (cS 0 (sv,b.rts)::Fr) w→Calls Tryz.prog 133 [ptr bd,dS c,lp b sv,.slice q ws.length cap].toArray w (Ret B (fun rv H'=>∃ x,rv=ptr x∧H'=eQ x (ee bd c b ws)::Fr) (fun _ _=>False)):=by
 refine ao func133 aa ntmps133 aa ?_
 have hba:=hb.act
 refine ac (ab (kPb (aY aa) aa fun b5=>(kPb (aY aa) aa fun b6=>(kPa aa aa (ad (ac (ab (kPv (ah isAgg134 sizeOf134 aa aa) aa ?_))))))))
 refine kPl im isAgg3 aa aa aa aa (kPv (eY aa aa) aa (ax aa (au call119 aa) (jC _ _ c hc _ (by have:=hb.act;omega) (by have:=hb.act;omega)) .free aa aa ?_))
 refine kPa aa aa (ad (am [9,8,6,5,0,3] rfl (ac (aR [1] ?_))))
 refine kI (.br [0,1,2,3,4,5,6] 7 (.fin [8,9,10,11]) 8 (.fin [7,9,10,11])) [7,8,10] [0,1,2,3,4,5,6] [7,8] [row b5 [i64 c.log,i64 c.roots,i64 c.space] 134,row b6 [i64 b.act,i64 b.used,sv] 151] [] (G:=Nat) (fun x=>[(8,ptr x)]) (fun x=>eQ x (ee bd c b ws)::Fr) Tryz.mixed (by kernel_rfl) ?_ ?_
 ·skip
  refine wJ (an aa aa aa (aj aa) .free aa (an aa aa aa (ah isAgg134 sizeOf134 aa aa) .free aa ?_))
  refine an aa aa aa (ah isAgg151 sizeOf151 aa aa) .free aa ?_
  refine an aa aa aa (aj aa) .free aa (an aa aa aa (aj aa) .free aa (an aa aa aa (aj aa) .free aa (an aa aa aa (aj aa) .free aa (cF ?_))))
  refine pP aa aa ?_ ?_
  ·skip
   refine aJ aa (au call178 aa) (ne _ _ q cap ws hwn hwq hwl.up) .free aa aa ?_
   rintro tsv _ ⟨htsv,rfl⟩
   refine ad (ug (jL (aS aa aa (kPb (dR .u64 i64) aa fun mw=>(ad (cO ?_))))))
   refine aU aa aa aa (aP aa (fH _ _ _ _ _ _ _ _ _ _ _ _ (by first | rfl | assumption) rfl rfl rfl (by first | rfl | assumption) (by first | rfl | assumption))) .free rfl ?_;refine aS aa aa ?_;refine kPb (aY aa) aa fun b25=> ?_;refine ad ?_;refine c6 aa ?_
   refine aU aa aa aa (bC aa) .free aa (cF ?_)
   exact fun a w st_=>⟨b25,st_.to ⟨rfl,trivial⟩ (fun hh=>(cA (S:=ee bd c b ws) hsv htsv ((hh.dp [3,3]).pk [0,2,1])))⟩
  ·skip
   refine kPb (dR .u64 i64) aa fun mw=>(ad (ug (jL (aS aa aa (aJ aa (au call178 aa) (ne _ _ q cap ws hwn hwq hwl.up) .free aa aa ?_)))))
   rintro tsv _ ⟨htsv,rfl⟩
   refine ad (cO ?_)
   refine aU aa aa aa (aP aa (fH _ _ _ _ _ _ _ _ _ _ _ _ (by first | rfl | assumption) rfl rfl rfl (by first | rfl | assumption) (by first | rfl | assumption))) .free rfl ?_;refine aS aa aa ?_;refine kPb (aY aa) aa fun b25=> ?_;refine ad ?_;refine c6 aa ?_;refine aU aa aa aa (bC aa) .free aa ?_;refine cF ?_
   exact fun a w st_=>⟨b25,st_.to ⟨rfl,trivial⟩ (fun hh=>(cA (S:=ee bd c b ws) hsv htsv ((hh.dp [3,3]).pk [0,2])))⟩
 intro x
 refine cg (σ':=[(8,ptr x)]) ⟨rfl,trivial⟩ (ay ?_)
 exact ar results133 aa (fun w hh=>⟨_,⟨_,rfl,rfl⟩,hh⟩)
def uV:List Value:=y7.flatMap fun p=>[str p.1,i64 p.2]
theorem mB:∀ k,k<18→(uV.drop (k*2)).take 2=[str (fw k),i64 (fm k)]:=by
 intro k hk
 obtain rfl | rfl | rfl | rfl | rfl | rfl | rfl | rfl | rfl | rfl | rfl | rfl | rfl | rfl | rfl | rfl | rfl | rfl:k=0∨k=1∨k=2∨k=3∨k=4∨k=5∨k=6∨k=7∨k=8∨k=9∨k=10∨k=11∨k=12∨k=13∨k=14∨k=15∨k=16∨k=17:=by omega
 all_goals rfl
def FG(B:World):Prop:=rM B (some ⟨1,0,none⟩) 1 36 (fun _=>uV)
section
variable {B:World} {σ:Env} {H:List HP} {P:Program} {d:Option Tmp} {ty:TypeId} {p:String} {af:Array Edge} {g:Option (Nat×Bool)}
theorem A5{t e m len:Nat}{x y:Operand}{k:IntKind}{i:Int}{cs c:List Value}(ht:∀ w,(underlying t).run P w= .ok (.array len e) w)(ha:∀ w,(isAgg e).run P w= .ok true w)(hs:∀ w,(sizeOf e).run P w= .ok m w)(hx:evO σ x=some (.agg cs.toArray))(hy:evO σ y=some (.int k i))(h0:0≤i∧i<len)(hc:(cs.drop (i.toNat*m)).take m=c):
 Evs P B σ H ⟨d,.index t x y,ty,p,af,g⟩ (.agg c.toArray):=by
 subst hc
 intro a w kn _
 simp only[execOp,kn.eval hx,kn.eval hy]
 simp[Instr.index,asIntOf,ht,h0.1,h0.2,part,ha,hs,List.extract_eq_take_drop]
theorem zw{t b m:Nat}{x:Operand}{cs:List Value}(ht:∀ w,(isAgg t).run P w= .ok true w)(hs:∀ w,(sizeOf t).run P w= .ok m w)[cV H B](hr:rM B (some ⟨b,0,none⟩) 1 m (fun _=>cs))(hx:evO σ x=some (.pointer (some ⟨b,0,none⟩))):
 Evs P B σ H ⟨d,.load t x,ty,p,af,g⟩ (.agg cs.toArray):=
 iu (i:=0) (k:=1) (cap:=1) ht hs (SlN.arg hr) (by rw[hx,Nat.zero_mul]) rfl
def isE:Value→Bool
 | .nilIface=>false
 | _=>true
theorem wn{x:Operand}{t u:TypeId}{ms:Array (String×TypeId)}{v:Value}(ht:∀ w,(underlying t).run P w= .ok (.interface ms) w)(hx:evO σ x=some v)(hv:v= .nilIface∨∃ u x,v= .iface u x):
 Evs P B σ H ⟨d,.binOp .neq t x (.const .nilIface) u,ty,p,af,g⟩ (.bool (isE v)):=(l3 ht hx hv).eq (by rcases hv with rfl | ⟨_,_,rfl⟩<;>rfl)
theorem zs{t e b off n cap:Nat}{x lo:Operand}{kk:IntKind}(ht:∀ w,(underlying t).run P w= .ok (.slice e) w)(hs:∀ w,(sizeOf e).run P w= .ok 1 w)(hx:evO σ x=some (.slice (some ⟨b,off,none⟩) n cap))(hl:evO σ lo=some (.int kk 1))(h1:1≤n)(h2:n≤cap):
 Evs P B σ H ⟨d,.slice t x (some lo) none none,ty,p,af,g⟩ (.slice (some ⟨b,if cap=1 then off else off+1,none⟩) (n - 1) (cap - 1)):=by
 by_cases hc:cap=1
 ·subst hc
  obtain rfl:n=1:=by omega
  rw[if_pos rfl]
  exact jE ht hs hx hl
 ·rw[if_neg hc]
  exact kl ht hs hx (.yesi hl aa) .no h1 h2 (.inl (by omega)) (by rw[Nat.one_mul])
theorem jW{q:Option Addr}{T cap:Nat}{l:List (List UInt8)}(i:Nat)(e:H[i]? =some (gi T (.slice q l.length cap) l)):SlR B H (.slice q l.length cap) (l.map str):=by
 have h:=xW (B:=B) uh i e
 rw[lR] at h
 refine⟨q,cap,by simp,fun w hw j hj=> ?_⟩
 rcases eE (hw.front i e) with ⟨h1,_,_⟩ | ⟨bd,pre,rest,k,_,h1,h2⟩
 ·rw[h1] at hj;exact absurd hj (Nat.not_lt_zero _)
 ·injection h1 with h1 _ _
  refine⟨bd,pre.length,h1,?_⟩
  have h3:=h2.cell 0 rfl (pre.length+j)
  rw[h3,lR,List.append_assoc,List.getElem?_append_right (by omega),Nat.add_sub_cancel_left,List.getElem?_append_left hj]
theorem ny{n:Nat}{D:List Deferred}{K:Act→World→Prop}{T:Nat}{sv:Value}{l:List (List UInt8)}(h:∀ q cap,sv= .slice q l.length cap→l.length≤cap→(0<l.length→∃ b off,q=some ⟨b,off,none⟩)→GO B n D σ (gi T sv l::H) K):GO B n D σ (gi T sv l::H) K:=fun a w st=>by
 rcases eE st.holds with ⟨e1,e2,_⟩ | ⟨bd,pre,rest,k,_,e,_⟩
 ·exact h none 0 (by rw[e2,e1];rfl) (by rw[e1];exact Nat.le_refl _) (fun hi=>by rw[e1] at hi;exact absurd hi (Nat.not_lt_zero _)) a w st
 ·exact h _ _ e (by omega) (fun hi=>⟨_,_,rfl⟩) a w st
end
theorem oA(s:List UInt8)(t:List (List UInt8)):fA (s::t)=match num s with
 | none=>none
 | some n=>(fA t).map fun l=>(n:Int)::l:=rfl
theorem mp{ns:List Int}{s:List UInt8}{t:List (List UInt8)}(h:num s=none):(fA (s::t)).map (ns++ ·)=none:=by rw[oA,h];rfl
theorem sH{ns:List Int}{s:List UInt8}{t:List (List UInt8)}{u:Nat}(h:num s=some u):(fA (s::t)).map (ns++ ·)=(fA t).map ((ns++[(u:Int)])++ ·):=by
 rw[oA,h]
 simp only[Option.map_map]
 congr 1
 funext l
 simp
theorem p4{ws:List (List UInt8)}(h:gw (ws.getD 0 [])=none):cH ws=((0,[]),12):=by unfold cH;rw[h]
theorem p5{ws:List (List UInt8)}{k:Nat}(h:gw (ws.getD 0 [])=some (k,fm k))(hl:ws.length≠fm k+1):cH ws=((0,[]),13):=by unfold cH;rw[h];simp only[if_pos hl]
theorem oJ{ws:List (List UInt8)}{k:Nat}(h:gw (ws.getD 0 [])=some (k,fm k))(hl:ws.length=fm k+1)(hn:fA (ws.drop 1)=none):cH ws=((0,[]),13):=by
 unfold cH;rw[h];simp only[ne_eq,not_true,if_false,hl,hn]
theorem q8{ws:List (List UInt8)}{k:Nat}{ns:List Int}(h:gw (ws.getD 0 [])=some (k,fm k))(hl:ws.length=fm k+1)(hn:fA (ws.drop 1)=some ns):cH ws=((((k:Nat):Int),ns),0):=by
 unfold cH;rw[h];simp only[ne_eq,not_true,if_false,hl,hn]
theorem iR{ws:List (List UInt8)}{i:Nat}(h:i<ws.length):(ws.map str)[i]? =some (str (ws.getD i [])):=by
 simp[h,List.getD]
theorem jd{ws:List (List UInt8)}{i:Nat}(h:i<ws.length):ws.drop i=ws.getD i []::ws.drop (i+1):=by
 rw[List.drop_eq_getElem_cons h];simp[h,List.getD]
theorem yL(B:World)(Fr:List HP)[cV Fr B](gl:GL B)(fg:FG B)(ws:List (List UInt8))(h0:0<ws.length)(hwn:ws.length≤1000000)(hwl:∀ i,(ws.getD i []).length≤1000000)(b off cap:Nat)(hcap:ws.length≤cap)(hr:SlR B Fr (.slice (some ⟨b,off,none⟩) ws.length cap) (ws.map str)):
 ∀ w,Holds B Fr w→Calls Tryz.prog 28 [.slice (some ⟨b,off,none⟩) ws.length cap].toArray w (Ret B (fun v H'=>∃ sv,aM sv=true∧v= .tuple #[.agg #[i64 (cH ws).1.1,sv],i64 (cH ws).2]∧H'=cS 0 (sv,(cH ws).1.2)::Fr) (fun _ _=>False)):=by
 refine ao func28 aa ntmps28 aa (ac (ab (kPb (aD zeroValue32 aa) aa fun b2=>(kPa aa aa (ad (ac (ac (ab (kPv (zw isAgg62 sizeOf62 fg aa) aa (kPm aa aa (ad ?_)))))))))))
 refine aF (cC (ι:=Nat) [11,3,2,0] (fun k=>(k≤18)∧(gw (ws.getD 0 [])=fR (ws.getD 0 []) (18 - k) k)) (fun k=>[(12,i64 k)]) (fun k=>row b2 [i64 0,.slice none 0 0] 32::Fr) (fun k=>18 - k) (0) (⟨Nat.zero_le _,rfl⟩) (fun a w st=>st.to ⟨rfl,trivial⟩ (fun hh=>hh)) ?_)
 rintro k ⟨hk0,hko⟩
 try simp only at hk0 hko ⊢
 refine cg (σ':=[(12,i64 k),(11,_),(3,_),(2,_),(0,_)]) (aC aa) (ac (ab (kPv (al aa aa aa) aa (ad (ac ?_)))))
 refine aZ aa (fun h13=> ?_) (fun h13=> ?_)
 ·have hk:k<18:=by simp at h13;omega
  have hfm:=za k hk
  refine aq (ac (aF (ac (ab (kPm aa aa (kPv (A5 (c:=[str (fw k),i64 (fm k)]) runUnderlying62 isAgg61 sizeOf61 aa aa (by omega) (by rw[Int.toNat_natCast];exact mB k hk)) aa (kPb (aD zeroValue61 aa) aa fun b5=>(kPa aa aa ?_))))))))
  refine kPs (az (vs:=_) sizeOf61 aa aa aa (by first | rfl | exact et (by assumption)) rfl) rfl ?_;refine ad ?_;refine ac ?_;refine ac ?_;refine cK Tryz.mixed (by kernel_rfl) (by kernel_rfl) ?_;refine kQm aa aa ?_;refine kQv (cq runUnderlying50 sizeOf9 aa aa (by omega) (by omega)) aa ?_
  refine kQv (bP (v:=str (ws.getD 0 [])) isAgg9 hr.up aa (iR h0)) aa (kQv (aE (m:=_) wm aa aa) aa (kQv (ai isAgg9 aa aa) aa (kQv (mF aa aa aa) aa (bZ (am [21,4,5,12,11,3,2,0] rfl ?_)))))
  refine aZ aa (fun h21=> ?_) (fun h21=> ?_)
  ·have hne:¬ fw k=ws.getD 0 []:=fun e=>by simp[e] at h21
   refine bB (ab (kPv (aL aa aa) aa (kPm aa aa (ad ?_))))
   exact fun a w st_=>⟨k+1,⟨by first | omega | (simp only;omega),by rw[hko,show 18 - k=18 - (k+1)+1 by omega,fR,if_neg hne]⟩,by first | omega | (simp only;omega),st_.to (aC aa) (fun hh=>(hh.dp [0]))⟩
  ·have heq:fw k=ws.getD 0 []:=by
    have h9:ws.getD 0 []=fw k:=by simpa using h21
    exact h9.symm
   have hkind:gw (ws.getD 0 [])=some (k,fm k):=by rw[hko,show 18 - k=17 - k+1 by omega,fR,if_pos heq]
   refine aq (ac (ac (ab (kPm aa aa (kPv (bD aa runUnderlying50 ⟨_,rfl⟩ rfl) aa (kPl AZ isAgg3 aa aa aa aa (kPv (aL aa aa) aa (kPv (al aa aa aa) aa (ad (am [27,4,12,11,3,2,0] rfl ?_))))))))))
   refine aZ aa (fun h27=> ?_) (fun h27=> ?_)
   ·have hln:ws.length≠fm k+1:=by simp at h27;omega
    have hres:cH ws=((0,[]),13):=p5 hkind hln
    refine ac (ab (kPv (aP aa (rF)) aa ?_))
    refine kPs (az (vs:=_) sizeOf32 aa aa aa (by first | rfl | exact et (by assumption)) rfl) rfl ?_;refine kPa aa aa ?_;refine ad ?_;refine ay ?_
    exact ge results28 (.cellA aa isAgg32 sizeOf32 aa aa) (.tmp aa) (fun w hh=>⟨_,⟨.slice none 0 0,rfl,by rw[hres];rfl,rfl⟩,by rw[hres];exact eI ((hh.dp [0,0]))⟩)
   ·have hln:ws.length=fm k+1:=by simp at h27;omega
    refine aq (ac (ab (kPm aa aa (kPv (aP aa (tW _ aa)) aa (kPb (aD zeroValue32 aa) aa fun b6=> ?_)))))
    refine kPs (az (vs:=_) sizeOf32 aa aa aa (by first | rfl | exact et (by assumption)) rfl) rfl ?_;refine ad ?_;refine ac ?_;refine ac ?_;refine aN (fun w hh=>eI (T:=25) (enc:=w64) hh) ?_;refine ab ?_;refine kPm aa aa ?_
    refine kPv (zs runUnderlying50 sizeOf9 aa aa h0 hcap) aa (kPv (bD aa runUnderlying50 ⟨_,rfl⟩ rfl) aa (kPm aa aa (ad (aF (cC (ι:=Nat×List Int×Value) [33,32,6,12,11,3,2,0] (fun (i,ns,nv)=>(i≤ws.length - 1)∧(fA (ws.drop 1)=(fA (ws.drop (i+1))).map (ns++ ·))∧(ns.length=i)∧(aM nv=true)) (fun (i,ns,nv)=>[(34,i64 i)]) (fun (i,ns,nv)=>cS 0 (nv,ns)::row b6 [i64 k,nv] 32::row b5 [str (fw k),i64 (fm k)] 61::row b2 [i64 0,.slice none 0 0] 32::Fr) (fun (i,ns,nv)=>ws.length - i) (0,[],.slice none 0 0) (⟨Nat.zero_le _,by simp,rfl,rfl⟩) (fun a w st=>st.to ⟨rfl,trivial⟩ (fun hh=>hh)) ?_)))))
    rintro⟨i,ns,nv⟩ ⟨hi0,hns,hnl,hnv⟩
    try simp only at hi0 hns hnl hnv ⊢
    refine cg (σ':=[(34,i64 i),(33,_),(32,_),(6,_),(12,_),(11,_),(3,_),(2,_),(0,_)]) (aC aa) (ac (ab (kPv (al aa aa aa) aa (ad (ac ?_)))))
    refine aZ aa (fun h35=> ?_) (fun h35=> ?_)
    ·have hi:i<ws.length - 1:=by simp at h35;omega
     refine aq (ac (aF (ac (ab (kPv ((cq runUnderlying50 sizeOf9 aa aa (by omega) (by omega)).eq (show _=Value.pointer (some ⟨b,off+(i+1),none⟩) by rw[if_neg (by omega),Int.toNat_natCast,Nat.add_assoc,Nat.add_comm 1])) aa (kPv (bP (v:=str (ws.getD (i+1) [])) isAgg9 hr.up aa (iR (by omega))) aa (kPa aa aa (ad (ac (ab (kPm aa aa ?_)))))))))))
     refine aJ aa (au call55 aa) (yx gl (ws.getD (i+1) []) (hwl _)) .free aa aa ?_
     rintro _ _ ⟨rfl,n9,e9,rfl,hor⟩
     have hev:e9= .nilIface∨∃ u x,e9= .iface u x:=by
      rcases hor with ⟨u,_,_,h⟩ | ⟨_,t,x,h⟩
      ·exact .inl h
      ·exact .inr ⟨_,_,h⟩
     refine kPm aa aa (kPv (aA aa aa) aa (kPv (aA aa aa) aa (kPa aa aa (kPa aa aa (ad (am [10,9,8,34,33,32,6,12,11,3,2,0] rfl (ac (ac ?_))))))))
     rcases Bool.eq_false_or_eq_true ((isE e9)) with hs12 | hs12
     ·skip
      have hnum:num (ws.getD (i+1) [])=none:=by
       rcases hor with ⟨u,_,_,h⟩ | ⟨h,_⟩
       ·rw[h] at hs12;cases hs12
       ·exact Au h
      have hres:cH ws=((0,[]),13):=oJ hkind hln (by rw[hns,jd (by omega)];exact mp hnum)
      refine ab (kPm aa aa (kPv (wn runUnderlying76 aa hev) aa (kPm aa aa (ap aa (.on aa aa (ag hs12)) aa (ap aa (.on aa aa (ag hs12)) aa (ap aa (.on aa aa (ag hs12)) aa (ap aa (.on aa aa (ag hs12)) aa (kPv (aw aa hs12 aa) aa (ad (am [50,9,34,33,32,6,12,11,3,2,0] rfl (tq aa (rfl) ?_)))))))))))
      refine ac (ab (kPv (aP aa (rF)) aa ?_))
      refine kPs (az (vs:=_) sizeOf32 aa aa aa (by first | rfl | exact et (by assumption)) rfl) rfl ?_;refine kPa aa aa ?_;refine ad ?_;refine ay ?_
      exact ge results28 (.cellA aa isAgg32 sizeOf32 aa aa) (.tmp aa) (fun w hh=>⟨_,⟨.slice none 0 0,rfl,by rw[hres];rfl,rfl⟩,by rw[hres];exact eI ((hh.dp [0,0,0,0]))⟩)
     ·skip
      obtain⟨u,hpu,rfl,rfl⟩:∃ u:Nat,Lib.parseUintB 64 (ws.getD (i+1) [])= .ok u∧n9=u∧e9= .nilIface:=by
       rcases hor with h | ⟨_,t,x,h⟩
       ·exact h
       ·rw[h] at hs12;cases hs12
      clear hor
      refine ab (kPm aa aa (kPv (wn runUnderlying76 aa hev) aa (kPm aa aa (ak aa (aj aa) (.on aa aa (ae hs12)) aa aa (ax aa (au call21 aa) (tu _ _ gl u (sA hpu)) (.on aa aa (ae hs12)) aa aa ?_)))))
      refine ak aa (aj aa) (.on aa aa (ae hs12)) aa aa (ak aa (mF aa aa aa) (.on aa aa (ae hs12)) aa aa (kPv (aG aa hs12 aa) aa (ad (am [50,9,34,33,32,6,12,11,3,2,0] rfl ?_))))
      refine aZ aa (fun h50=> ?_) (fun h50=> ?_)
      ·have hnum:num (ws.getD (i+1) [])=none:=by rw[yD hpu,if_neg (by simpa using h50)]
       have hres:cH ws=((0,[]),13):=oJ hkind hln (by rw[hns,jd (by omega)];exact mp hnum)
       refine ac (ab (kPv (aP aa (rF)) aa ?_))
       refine kPs (az (vs:=_) sizeOf32 aa aa aa (by first | rfl | exact et (by assumption)) rfl) rfl ?_;refine kPa aa aa ?_;refine ad ?_;refine ay ?_
       exact ge results28 (.cellA aa isAgg32 sizeOf32 aa aa) (.tmp aa) (fun w hh=>⟨_,⟨.slice none 0 0,rfl,by rw[hres];rfl,rfl⟩,by rw[hres];exact eI ((hh.dp [0,0,0,0]))⟩)
      ·have hnum:num (ws.getD (i+1) [])=some u:=by rw[yD hpu,if_pos (by simpa using h50)]
       refine aq (ab (kPl iC isAgg30 aa aa aa aa (kPm aa aa (kPb (fW runUnderlying30 sizeOf25 zeroValue25 aa aa aa) aa fun b55=>(aR [1,0] (cJ aa (ea aa aa runUnderlying30 runUnderlying30 ⟨_,rfl⟩ sizeOf25 zeroValue25 aa (fun _=>rfl) hG aa aa (by omega)) .free aa aa ?_))))))
       rintro nv9 _ ⟨hnv9,rfl⟩
       refine kPv (aE (m:=_) iC aa aa) aa ?_
       refine kPs (aO sizeOf30 aa aa (by first | rfl | assumption) rfl) rfl ?_;refine ad ?_;refine am [34,33,32,6,12,11,3,2,0] rfl ?_;refine ab ?_;refine kPv (aL aa aa) aa ?_;refine kPm aa aa ?_;refine ad ?_
       exact fun a w st_=>⟨(i+1,ns++[(u:Int)],nv9),⟨by first | omega | (simp only;omega),by rw[hns,jd (by omega),sH hnum],by simp[hnl],hnv9⟩,by first | omega | (simp only;omega),st_.to (aC aa) (fun hh=>hh)⟩
    ·have hi:i=ws.length - 1:=by simp at h35;omega
     have hres:cH ws=((((k:Nat):Int),ns),0):=q8 hkind hln (by rw[hns,List.drop_eq_nil_of_le (by omega)];simp[fA])
     refine bB (ac (ab (kPv (ah isAgg32 sizeOf32 aa aa) aa ?_)))
     refine kPs (az (vs:=[i64 k,nv]) sizeOf32 aa aa aa (show([i64 k,nv]:List Value).all aM=true by simp only[List.all_cons,List.all_nil,hnv];rfl) aa) aa (kPa aa aa (ad (ay ?_)))
     exact ge results28 (.cellA aa isAgg32 sizeOf32 aa aa) (.tmp aa) (fun w hh=>⟨_,⟨nv,hnv,by rw[hres];rfl,by rw[hres]⟩,(hh.dp [1,1,1])⟩)
 ·have hk:k=18:=by simp at h13;omega
  subst hk
  have hres:cH ws=((0,[]),12):=p4 hko
  refine bB (ac (ab (kPv (aP aa (rF)) aa ?_)))
  refine kPs (az (vs:=_) sizeOf32 aa aa aa (by first | rfl | exact et (by assumption)) rfl) rfl ?_;refine kPa aa aa ?_;refine ad ?_;refine ay ?_
  exact ge results28 (.cellA aa isAgg32 sizeOf32 aa aa) (.tmp aa) (fun w hh=>⟨_,⟨.slice none 0 0,rfl,by rw[hres];rfl,rfl⟩,by rw[hres];exact eI ((hh.dp [0]))⟩)
structure CmR(B:World)(H:List HP)(q:Option Addr)(cap:Nat)(rs:List CR):Prop where
 sl:SlN B H (.slice q rs.length cap) 2 (rs.map crE)
 nm:∀ t∈rs,SlR B H (slv t.2.1) (t.2.2.map w64)∧t.2.1.2.1=t.2.2.length∧t.2.2.length≤1000000
theorem CmR.up{B:World}{H Fr:List HP}{q:Option Addr}{cap:Nat}{rs:List CR}[gF H Fr](h:CmR B Fr q cap rs):CmR B H q cap rs:=
 ⟨h.sl.up,fun t ht=>⟨(h.nm t ht).1.up,(h.nm t ht).2⟩⟩
theorem vx{B:World}{H:List HP}{q:Option Addr}{n cap:Nat}{cs:List Value}(h:SlR B H (.slice q n cap) cs){w:World}(hw:Holds B H w):∀ i,i<cs.length→∃ b off,q=some ⟨b,off,none⟩:=fun i hi=>by
 obtain⟨q',c',e1,e2⟩:=h.ex
 injection e1 with e3 _ _
 subst e3
 obtain⟨b,off,e,_⟩:=e2 w hw i hi
 exact⟨b,off,e⟩
theorem Cs{t u:CR}:((t.1==u.1)&&decide (t.2.2=u.2.2))=decide (crC t=crC u):=by
 rw[Bool.eq_iff_iff]
 simp[crC,Prod.ext_iff]
abbrev crV(t:CR):Value:= .agg #[i64 t.1,slv t.2.1]
theorem C7{B:World}{H Fr:List HP}[gF H Fr]{t u:CR}(hx:SlR B Fr (slv t.2.1) (t.2.2.map w64)∧t.2.1.2.1=t.2.2.length∧t.2.2.length≤1000000)(hy:SlR B Fr (slv u.2.1) (u.2.2.map w64)∧u.2.1.2.1=u.2.2.length∧u.2.2.length≤1000000):
 ∀ w,Holds B H w→Calls Tryz.prog 25 [slv t.2.1,slv u.2.1].toArray w (a8 B H (.bool (decide (t.2.2=u.2.2)))):=fun w hw=>by
 obtain⟨h1,h2,h3⟩:=hx
 obtain⟨g1,g2,g3⟩:=hy
 obtain⟨k1,⟨q1,n1,c1⟩,xs⟩:=t
 obtain⟨k2,⟨q2,n2,c2⟩,ys⟩:=u
 simp only at h2 g2
 subst h2;subst g2
 have h4:SlR B H (.slice q1 xs.length c1) (xs.map w64):=h1.up
 have g4:SlR B H (.slice q2 ys.length c2) (ys.map w64):=g1.up
 exact tG B H q1 q2 c1 c2 xs ys h3 g3 (fun i hi=>vx h4 hw i (by simpa using hi)) (fun i hi=>vx g4 hw i (by simpa using hi)) h4 g4 w hw
theorem yn(B:World)(Fr:List HP)(t u:CR)(hx:SlR B Fr (slv t.2.1) (t.2.2.map w64)∧t.2.1.2.1=t.2.2.length∧t.2.2.length≤1000000)(hy:SlR B Fr (slv u.2.1) (u.2.2.map w64)∧u.2.1.2.1=u.2.2.length∧u.2.2.length≤1000000):
 ∀ w,Holds B Fr w→Calls Tryz.prog 30 [crV t,crV u].toArray w (a8 B Fr (.bool (decide (crC t=crC u)))):=by
 refine ao func30 aa ntmps30 aa (ac (ab (kPb (aY aa) aa fun b2=>(kPb (aY aa) aa fun b3=>(kPa aa aa (ad (ac (ab (kPl iD isAgg29 aa aa aa aa (kPl iD isAgg29 aa aa aa aa (kPv (al aa aa aa) aa ?_)))))))))))
 refine kPm aa aa ?_
 apply dD (tp:=16) (t:=10) (σ1:=[(10,_),(4,_)]) 6 rfl ⟨rfl,rfl,trivial⟩
 ·intro hg1
  refine ak aa (aE (m:=_) iC aa aa) (.on aa aa (ae hg1)) aa aa (ak aa (ai isAgg30 aa aa) (.on aa aa (ae hg1)) aa aa (ak aa (aE (m:=_) iC aa aa) (.on aa aa (ae hg1)) aa aa (ak aa (ai isAgg30 aa aa) (.on aa aa (ae hg1)) aa aa (ax aa (au call25 aa) (C7 hx hy) (.on aa aa (ae hg1)) aa aa ?_))))
  refine kPv (aw aa hg1 aa) aa ?_
  exact aW aa ⟨rfl,rfl,trivial⟩ (cQ hg1)
 ·intro hg1
  refine ap aa (.on aa aa (ag hg1)) aa (ap aa (.on aa aa (ag hg1)) aa (ap aa (.on aa aa (ag hg1)) aa (ap aa (.on aa aa (ag hg1)) aa (ap aa (.on aa aa (ag hg1)) aa (kPv (aG aa hg1 aa) aa ?_)))))
  exact aW aa ⟨rfl,rfl,trivial⟩ (cR hg1)
 refine kPa aa aa (ad (ay ?_))
 exact ar results30 aa (fun w hw=>⟨by rw[Cs],(hw.dp [0,0])⟩)
theorem Co(B:World)(Fr:List HP)(q1 q2:Option Addr)(c1 c2:Nat)(r1 r2:List CR)(hn1:r1.length≤1000000)(hn2:r2.length≤1000000)(h1:CmR B Fr q1 c1 r1)(h2:CmR B Fr q2 c2 r2):
 ∀ w,Holds B Fr w→Calls Tryz.prog 29 [.slice q1 r1.length c1,.slice q2 r2.length c2,.func (.func 30) #[] #[]].toArray w (a8 B Fr (.bool (decide (r1.map crC=r2.map crC)))):=by
 refine ao func29 aa ntmps29 aa (ac (ab (kPa aa aa (ad (ac (ac (ab (kPm aa aa (kPv (bD aa runUnderlying24 ⟨_,rfl⟩ rfl) aa (kPm aa aa (kPv (bD aa runUnderlying24 ⟨_,rfl⟩ rfl) aa ?_)))))))))))
 refine kPv (al aa aa aa) aa (ad ?_)
 refine aZ aa (fun h14=> ?_) (fun h14=> ?_)
 ·have hne:r1.length≠r2.length:=by intro e;rw[e] at h14;simp at h14
  refine ac (ab (kPa aa aa (ad (ay ?_))))
  exact ar results29 aa (fun w hw=>⟨by rw[decide_eq_false (fun e=>hne (by have:=congrArg List.length e;simpa using this))],hw⟩)
 ·have hle:r1.length=r2.length:=by simp at h14;omega
  refine aq (ac (ac (ab (kPm aa aa (kPv (bD aa runUnderlying24 ⟨_,rfl⟩ rfl) aa (kPm aa aa (ad (aF (cC (ι:=Nat) [16,15,6,1,2] (fun k=>(k≤r1.length)∧(∀ j,j<k→(r1[j]?).map crC=(r2[j]?).map crC)) (fun k=>[(17,i64 k)]) (fun k=>Fr) (fun k=>r1.length - k) (0) (⟨Nat.zero_le _,fun j h=>absurd h (Nat.not_lt_zero _)⟩) (fun a w st=>st.to ⟨rfl,trivial⟩ (fun hh=>hh)) ?_)))))))))
  rintro k ⟨hk0,hall⟩
  try simp only at hk0 hall ⊢
  refine cg (σ':=[(17,i64 k),(16,_),(15,_),(6,_),(1,_),(2,_)]) (aC aa) (ac (ab (kPv (al aa aa aa) aa (ad (ac ?_)))))
  refine aZ aa (fun h18=> ?_) (fun h18=> ?_)
  ·have hk:k<r1.length:=by simp at h18;omega
   refine uQ h1.sl.up (by rw[List.length_map];omega) fun b1 o1 e1=> ?_
   subst e1
   refine uQ h2.sl.up (by rw[List.length_map];omega) fun b2 o2 e2=> ?_
   subst e2
   refine aq (ac (aF (ac (ab (kPm aa aa (kPv (l5 (sz:=2) runUnderlying24 sizeOf32 aa aa (by omega) (by omega) aa) aa ?_))))))
   refine kPv (iu (i:=k) (c:=[i64 r1[k].1,slv r1[k].2.1]) isAgg32 sizeOf32 h1.sl.up aa (by rw[List.getElem?_map,List.getElem?_eq_getElem (by omega)];rfl)) aa ?_
   refine kPb (aD zeroValue32 aa) aa fun b8=>(kPa aa aa (kPs (az (vs:=[i64 r1[k].1,slv r1[k].2.1]) sizeOf32 aa aa aa aa aa) aa (ad (ac (ab (kPm aa aa (kPm aa aa (kPv (l5 (sz:=2) runUnderlying24 sizeOf32 aa aa (by omega) (by omega) aa) aa ?_))))))))
   refine kPv (iu (i:=k) (c:=[i64 (r2[k]'(by omega)).1,slv (r2[k]'(by omega)).2.1]) isAgg32 sizeOf32 h2.sl.up aa (by rw[List.getElem?_map,List.getElem?_eq_getElem (by omega)];rfl)) aa ?_
   refine kPb (aD zeroValue32 aa) aa fun b9=>(kPs (az (vs:=[i64 (r2[k]'(by omega)).1,slv (r2[k]'(by omega)).2.1]) sizeOf32 aa aa aa aa aa) aa (ad (am [9,8,17,16,15,6,1,2] rfl (ac (ab (kPm aa aa (kPv (ah isAgg32 sizeOf32 aa aa) aa ?_)))))))
   refine kPv (ah isAgg32 sizeOf32 aa aa) aa ?_
   refine ax aa (km call30 aa aa) (yn _ _ r1[k] (r2[k]'(by omega)) (h1.up.nm _ (List.getElem_mem hk)) (h2.up.nm _ (List.getElem_mem _))) .free aa aa ?_
   refine kPv (bj aa) aa (ad ?_)
   refine aZ aa (fun h30=> ?_) (fun h30=> ?_)
   ·have hkk:crC r1[k]≠crC (r2[k]'(by omega)):=by simp only[Bool.not_eq_true',decide_eq_false_iff_not] at h30;exact h30
    refine ac (ab (kPa aa aa (ad (am [6,17,16,15,1,2] rfl (ay ?_)))))
    exact ar results29 aa (fun w hw=>⟨by
   rw[decide_eq_false fun e=>hkk ?_]
   have h9:=congrArg (fun l=>l[k]?) e
   simp only[List.getElem?_map,List.getElem?_eq_getElem hk,List.getElem?_eq_getElem (show k<r2.length by omega),Option.map_some] at h9
   exact Option.some.inj h9,(hw.dp [0,0])⟩)
   ·have hkk:crC r1[k]=crC (r2[k]'(by omega)):=by simp only[Bool.not_eq_false',decide_eq_true_eq] at h30;exact h30
    refine aq (ab (kPv (aL aa aa) aa (kPm aa aa (ad (am [17,16,15,6,1,2] rfl ?_)))))
    exact fun a w st_=>⟨k+1,⟨by first | omega | (simp only;omega),fun j hj=>by
   rcases Nat.lt_succ_iff_lt_or_eq.1 hj with h | h
   ·exact hall j h
   ·subst h;rw[List.getElem?_eq_getElem hk,List.getElem?_eq_getElem (by omega)];exact congrArg some hkk⟩,by first | omega | (simp only;omega),st_.to (aC aa) (fun hh=>(hh.dp [0,0]))⟩
  ·have hk:¬ k<r1.length:=by simp at h18;omega
   refine bB (ac (ab (kPa aa aa (ad (ay ?_)))))
   exact ar results29 aa (fun w hw=>⟨by
   have e:r1.map crC=r2.map crC:=List.ext_getElem? fun j=>by
    rw[List.getElem?_map,List.getElem?_map]
    by_cases hj:j<k
    ·exact hall j hj
    ·rw[List.getElem?_eq_none (by omega),List.getElem?_eq_none (by omega)]
   rw[decide_eq_true e],hw⟩)
theorem An(B:World)(Fr:List HP)(q1 q2:Option Addr)(c1 c2:Nat)(r1 r2:List CR)(hn1:r1.length≤1000000)(hn2:r2.length≤1000000)(h1:CmR B Fr q1 c1 r1)(h2:CmR B Fr q2 c2 r2):
 ∀ w,Holds B Fr w→Calls Tryz.prog 15 [.slice q1 r1.length c1,.slice q2 r2.length c2].toArray w (a8 B Fr (.bool (decide (r1.map crC=r2.map crC)))):=by
 refine ao func15 aa ntmps15 aa (ac (ab (kPa aa aa (ad (ac (ab (kPm aa aa (kPm aa aa (ax aa (au call29 aa) (Co _ _ q1 q2 c1 c2 r1 r2 hn1 hn2 h1 h2) .free aa aa ?_)))))))))
 refine kPa aa aa (ad (ay ?_))
 exact ar results15 aa (fun w hw=>⟨rfl,hw⟩)
theorem zA{s:List UInt8}{i:Nat}(h:i<s.length):s.drop i=s.getD i 0::s.drop (i+1):=by
 rw[List.drop_eq_getElem_cons h];simp[h,List.getD]
theorem zS{s:List UInt8}{i:Nat}(h:i<s.length):(s.map u8v)[i]? =some (u8v (s.getD i 0)):=by
 simp[h,List.getD]
theorem zB{n:Nat}{c:UInt8}{t:List UInt8}(h:c.toNat<48∨57<c.toNat∨18446744073709551615<n*10+(c.toNat - 48)):je n (c::t)=none:=by
 rw[je,if_pos h]
theorem xx{n:Nat}{c:UInt8}{t:List UInt8}(h:¬ (c.toNat<48∨57<c.toNat∨18446744073709551615<n*10+(c.toNat - 48))):je n (c::t)=je (n*10+(c.toNat - 48)) t:=by
 rw[je,if_neg h]
theorem A7{s:List UInt8}(h:s=[]∨20<s.length∨(s.getD 0 0=48∧1<s.length)):ph s=none:=by
 unfold ph;rw[if_pos h]
theorem A8{s:List UInt8}(h:¬ (s=[]∨20<s.length∨(s.getD 0 0=48∧1<s.length))):ph s=je 0 s:=by
 unfold ph;rw[if_neg h]
theorem Cv{c:UInt8}:((c.toNat:Int)==48)=(c==48):=by
 rw[Bool.eq_iff_iff]
 simp only[beq_iff_eq]
 constructor
 ·intro h;apply UInt8.toNat_inj.1;show c.toNat=48;omega
 ·intro h;subst h;rfl
theorem Dn{s:List UInt8}(h:s≠[]):s[(0:Int).toNat]? =some (s.getD 0 0):=by
 cases s with
 | nil=>exact absurd aa h
 | cons a t=>rfl
def Cq(s:List UInt8):Bool:=(s==[])||decide ((s.length:Int)>20)||(((s.getD 0 0).toNat:Int)==48&&decide ((s.length:Int)>1))
theorem tI(s:List UInt8):Cq s=true↔(s=[]∨20<s.length∨(s.getD 0 0=48∧1<s.length)):=by
 unfold Cq
 rw[Cv]
 simp only[Bool.or_eq_true,Bool.and_eq_true,beq_iff_eq,decide_eq_true_eq]
 constructor
 ·rintro((h | h) | ⟨h1,h2⟩)
  ·exact .inl h
  ·exact .inr (.inl (by omega))
  ·exact .inr (.inr ⟨h1,by omega⟩)
 ·rintro(h | h | ⟨h1,h2⟩)
  ·exact .inl (.inl h)
  ·exact .inl (.inr (by omega))
  ·exact .inr ⟨h1,by omega⟩
theorem xw(B:World)(Fr:List HP)(s:List UInt8)(hs:s.length≤1000000):
 ∀ w,Holds B Fr w→Calls Tryz.prog 39 [str s].toArray w (a8 B Fr (.tuple #[w64 ((ph s).getD 0:Nat),.bool (ph s).isSome])):=by
 refine ao func39 aa ntmps39 aa (ac (ab (kPa aa aa (kPa aa aa (ad (ac (ac (ab (kPm aa aa (kPv (mF aa aa aa) aa (kPm aa aa ?_)))))))))))
 apply ga (tp:=14) (t:=10) (σ1:=[(10,_),(3,_),(2,_),(0,_)]) 4 rfl (aC rfl)
 ·intro hg1
  refine ak aa (aj aa) (.on aa aa (ae hg1)) aa aa (ak aa (iE aa runUnderlying9 aa) (.on aa aa (ae hg1)) aa aa (ak aa (al aa aa aa) (.on aa aa (ae hg1)) aa aa (kPv (aG aa hg1 aa) aa ?_)))
  exact aW aa (aC aa) (fh hg1)
 ·intro hg1
  refine ap aa (.on aa aa (ag hg1)) aa (ap aa (.on aa aa (ag hg1)) aa (ap aa (.on aa aa (ag hg1)) aa (kPv (aw aa hg1 aa) aa ?_)))
  exact aW aa (aC aa) (fc hg1)
 refine kPm aa aa ?_
 apply ga (tp:=24) (t:=15) (σ1:=[(15,_),(3,_),(2,_),(0,_)]) 9 rfl (aC rfl)
 ·intro hg2
  try have hne0:s≠[]:=by intro e;rw[e] at hg2;revert hg2;decide
  refine ak aa (aj aa) (.on aa aa (ae hg2)) aa aa (ak aa (A4 (b:=s.getD 0 0) runUnderlying9 aa aa (by decide) (Dn hne0)) (.on aa aa (ae hg2)) aa aa (ak aa (al aa aa aa) (.on aa aa (ae hg2)) aa aa (ak aa (aj aa) (.on aa aa (ae hg2)) aa aa ?_)))
  apply dD (tp:=23) (t:=19) (σ1:=[(19,_),(15,_),(3,_),(2,_),(0,_)]) 4 rfl (aC rfl)
  ·intro hg3
   refine ak aa (aj aa) (.on aa aa (ae hg3)) aa aa (ak aa (iE aa runUnderlying9 aa) (.on aa aa (ae hg3)) aa aa (ak aa (al aa aa aa) (.on aa aa (ae hg3)) aa aa (ak aa (aw aa hg3 aa) (.on aa aa (ae hg2)) aa aa ?_)))
   exact aW aa (aC aa) (cQ hg3)
  ·intro hg3
   refine ap aa (.on aa aa (ag hg3)) aa (ap aa (.on aa aa (ag hg3)) aa (ap aa (.on aa aa (ag hg3)) aa (ak aa (aG aa hg3 aa) (.on aa aa (ae hg2)) aa aa ?_)))
   exact aW aa (aC aa) (cR hg3)
  refine kPv (aG aa hg2 aa) aa ?_
  exact aW aa (aC aa) (fh hg2)
 ·intro hg2
  try have hne0:s≠[]:=by intro e;rw[e] at hg2;revert hg2;decide
  refine ap aa (.on aa aa (ag hg2)) aa (ap aa (.on aa aa (ag hg2)) aa (ap aa (.on aa aa (ag hg2)) aa (ap aa (.on aa aa (ag hg2)) aa (ap aa (.und aa aa) aa (ap aa (.und aa aa) aa (ap aa (.und aa aa) aa (ap aa (.on aa aa (ag hg2)) aa (kPv (aw aa hg2 aa) aa ?_))))))))
  exact aW aa (aC aa) (fc hg2)
 refine ad ?_
 refine aZ aa (fun h24=> ?_) (fun h24=> ?_)
 ·have hno:ph s=none:=A7 ((tI s).1 h24)
  refine ac (ab (kPa aa aa (kPa aa aa (ad (ay ?_)))))
  exact bR results39 aa aa (fun w hw=>⟨by rw[hno];rfl,hw⟩)
 ·have hgo:ph s=je 0 s:=A8 (fun h=>by have h2:=(tI s).2 h;unfold Cq at h2;rw[h2] at h24;cases h24)
  refine aq (ac (ab (kPa aa aa (ad (ac (ac (ab (kPm aa aa (cJ aa (Ct runUnderlying9 runUnderlying72 runUnderlying5 aa) .free aa aa ?_)))))))))
  rintro _ _ ⟨b26,cap26,rfl,rfl⟩
  refine kPv (bD aa runUnderlying72 ⟨_,rfl⟩ rfl) aa (kPm aa aa (ad (aF (cC (ι:=Nat×Nat) [27,26,3,2] (fun (i,n)=>(i≤s.length)∧(n≤18446744073709551615)∧(je 0 s=je n (s.drop i))) (fun (i,n)=>[(28,i64 i),(4,w64 n)]) (fun (i,n)=>u6 b26 s::Fr) (fun (i,n)=>s.length - i) (0,0) (⟨Nat.zero_le _,by decide,rfl⟩) (fun a w st=>st.to ⟨rfl,rfl,trivial⟩ (fun hh=>hh)) ?_))))
  rintro⟨i,n⟩ ⟨hi0,hn,hinv⟩
  try simp only at hi0 hn hinv ⊢
  refine cg (σ':=[(28,i64 i),(4,w64 n),(27,_),(26,_),(3,_),(2,_)]) (aC aa) (ac (ab (kPv (al aa aa aa) aa (ad (ac ?_)))))
  refine aZ aa (fun h29=> ?_) (fun h29=> ?_)
  ·have hi:i<s.length:=by simp at h29;omega
   obtain⟨c,hc⟩:∃ c,c=s.getD i 0:=⟨_,rfl⟩
   have hdc:s.drop i=c::s.drop (i+1):=by rw[hc];exact zA hi
   have hbg:(s.map u8v)[i]? =some (u8v c):=by rw[hc];exact zS hi
   clear hc
   have hby:=UInt8.toNat_lt c
   refine aq (ac (aF (ac (ab (kPv (cq runUnderlying72 sizeOf5 aa aa (by omega) (by omega)) aa (kPv (bP (v:=u8v c) isAgg5 (xB (cap:=cap26) 0 aa) aa (by rw[Int.toNat_natCast];exact hbg)) aa (kPa aa aa (ad (ac (ab (kPm aa aa ?_)))))))))))
   refine kPv (cX (c:=(c.toNat:Int)) runUnderlying5 runUnderlying25 aa (dT (by omega))) aa (kPv (la aa aa aa) aa (kPa aa aa (ad (ac (ac (ab (kPm aa aa (kPv (al aa aa aa) aa (kPm aa aa ?_)))))))))
   apply ga (tp:=40) (t:=37) (σ1:=[(37,_),(7,_),(28,_),(4,_),(27,_),(26,_),(3,_),(2,_)]) 3 rfl (aC rfl)
   ·intro hg4
    refine ak aa (aj aa) (.on aa aa (ae hg4)) aa aa (ak aa (al aa aa aa) (.on aa aa (ae hg4)) aa aa (kPv (aG aa hg4 aa) aa ?_))
    exact aW aa (aC aa) (fh hg4)
   ·intro hg4
    refine ap aa (.on aa aa (ag hg4)) aa (ap aa (.on aa aa (ag hg4)) aa (kPv (aw aa hg4 aa) aa ?_))
    exact aW aa (aC aa) (fc hg4)
   refine kPm aa aa ?_
   apply ga (tp:=47) (t:=41) (σ1:=[(41,_),(7,_),(28,_),(4,_),(27,_),(26,_),(3,_),(2,_)]) 6 rfl (aC rfl)
   ·intro hg5
    try have hd9:48≤c.toNat∧c.toNat≤57:=by simp at hg5;omega
    refine ak aa (aj aa) (.on aa aa (ae hg5)) aa aa (ak aa (aj aa) (.on aa aa (ae hg5)) aa aa (ak aa (la (c:=18446744073709551615 - ((c.toNat:Int) - 48)) aa aa (by rw[show IntKind.u64.wrap ((c.toNat:Int) - 48)=(c.toNat:Int) - 48 from dT (by omega)];exact dT (by omega))) (.on aa aa (ae hg5)) aa aa (ak aa (lh (c:=(18446744073709551615 - ((c.toNat:Int) - 48)) / 10) aa aa (by decide) (by rw[Int.tdiv_eq_ediv_of_nonneg (by omega)];exact dT (by omega))) (.on aa aa (ae hg5)) aa aa (ak aa (al aa aa aa) (.on aa aa (ae hg5)) aa aa (kPv (aG aa hg5 aa) aa ?_)))))
    exact aW aa (aC aa) (fh hg5)
   ·intro hg5
    try have hd9:48≤c.toNat∧c.toNat≤57:=by simp at hg5;omega
    refine ap aa (.on aa aa (ag hg5)) aa (ap aa (.on aa aa (ag hg5)) aa (ap aa (.on aa aa (ag hg5)) aa (ap aa (.on aa aa (ag hg5)) aa (ap aa (.on aa aa (ag hg5)) aa (kPv (aw aa hg5 aa) aa ?_)))))
    exact aW aa (aC aa) (fc hg5)
   refine ad ?_
   refine aZ aa (fun h47=> ?_) (fun h47=> ?_)
   ·have hbad:je n (s.drop i)=none:=by
     rw[hdc];refine zB ?_
     simp at h47;omega
    refine ac (ab (kPa aa aa (kPa aa aa (ad (ay ?_)))))
    exact bR results39 aa aa (fun w hw=>⟨by rw[hgo,hinv,hbad];rfl,(hw.dp [0])⟩)
   ·have hok:¬ (c.toNat<48∨57<c.toNat∨18446744073709551615<n*10+(c.toNat - 48)):=by simp at h47;omega
    refine aq (ab (kPm aa aa (kPv (l4 aa aa) aa (kPm aa aa (kPv (iN (c:=((n*10+(c.toNat - 48):Nat):Int)) aa aa (by rw[show IntKind.u64.wrap ((c.toNat:Int) - 48)=(c.toNat:Int) - 48 from dT (by omega),dT (by omega)];omega)) aa (kPa aa aa (ad (am [4,28,27,26,3,2] rfl (ab (kPv (aL aa aa) aa (kPm aa aa ?_)))))))))))
    refine ad ?_
    exact fun a w st_=>⟨(i+1,n*10+(c.toNat - 48)),⟨by first | omega | (simp only;omega),by first | omega | (simp only;omega),by rw[hinv,hdc,xx hok]⟩,by first | omega | (simp only;omega),st_.to (aC aa) (fun hh=>hh)⟩
  ·have hi:¬ i<s.length:=by simp at h29;omega
   refine bB (ac (ab (kPm aa aa (kPa aa aa (kPa aa aa (ad (ay ?_)))))))
   exact bR results39 aa aa (fun w hw=>⟨by rw[hgo,hinv,List.drop_eq_nil_of_le (by omega)];rfl,(hw.dp [0])⟩)
def oK(c:Cmd):List UInt8:=if c.1<0∨18≤c.1 then [63] else c.2.foldl (fun l n=>l++([32]++Lib.decDigits n.toNat)) (fw c.1.toNat)
theorem Cd:∀ k,k<18→(fw k).length≤7:=by decide
theorem AT{B:World}(fg:FG B){k:Nat}(hk:k<18):B.cell? ⟨1,k*2,none⟩=some (str (fw k)):=by
 obtain⟨b,off,e,_,h⟩:=fg.cell 0 (by decide)
 injection e with e
 injection e with e1 e2
 subst e1;subst e2
 have h2:=h (k*2) (by omega)
 have h3:=mB k hk
 have h4:uV[k*2]? =some (str (fw k)):=by
  have:=congrArg (fun l=>l[0]?) h3
  simpa using this
 rw[show 0+(0*36+k*2)=k*2 by omega,h4] at h2
 exact h2
theorem wH{α β:Type}{f:β→α→β}{a:β}{l:List α}{k:Nat}(h:k<l.length):(l.take (k+1)).foldl f a=f ((l.take k).foldl f a) l[k]:=by
 rw[List.take_succ_eq_append_getElem h,List.foldl_append];rfl
theorem xn(B:World)(Fr:List HP)[cV Fr B](gl:GL B){n:Int}(h:0≤n∧n<18446744073709551616):∀ w,Holds B Fr w→Calls Tryz.prog 21 [w64 n,i64 10].toArray w (a8 B Fr (str (Lib.decDigits n.toNat))):=by
 obtain⟨u,rfl⟩:=Int.eq_ofNat_of_zero_le h.1
 exact tu B Fr gl u (by omega)
theorem ye{xs:List Int}{k:Nat}(hk:k<xs.length):(xs.map w64)[k]? =some (w64 xs[k]):=by simp[hk]
theorem zK(B:World)(Fr:List HP)[cV Fr B](gl:GL B)(fg:FG B)(kd:Int)(q:Option Addr)(cap:Nat)(ns:List Int)(hn:ns.length≤1000)(hnb:∀ n∈ns,0≤n∧n<18446744073709551616)(hr:SlR B Fr (.slice q ns.length cap) (ns.map w64))(hq:∀ i,i<ns.length→∃ b off,q=some ⟨b,off,none⟩):
 ∀ w,Holds B Fr w→Calls Tryz.prog 13 [.agg #[i64 kd,.slice q ns.length cap]].toArray w (a8 B Fr (str (oK (kd,ns)))):=by
 refine ao func13 aa ntmps13 aa (ac (ab (kPb (aY aa) aa fun b1=>(kPa aa aa (ad (ac (ac (ab (kPl iD isAgg29 aa aa aa aa (kPv (al aa aa aa) aa (kPm aa aa ?_)))))))))))
 apply ga (tp:=13) (t:=9) (σ1:=[(9,_),(2,_),(1,_)]) 4 rfl (aC rfl)
 ·intro hg1
  refine ak aa (aE (m:=_) iD aa aa) (.on aa aa (ae hg1)) aa aa (ak aa (ai isAgg29 aa aa) (.on aa aa (ae hg1)) aa aa (ak aa (al aa aa aa) (.on aa aa (ae hg1)) aa aa (kPv (aG aa hg1 aa) aa ?_)))
  exact aW aa (aC aa) (fh hg1)
 ·intro hg1
  refine ap aa (.on aa aa (ag hg1)) aa (ap aa (.on aa aa (ag hg1)) aa (ap aa (.on aa aa (ag hg1)) aa (kPv (aw aa hg1 aa) aa ?_)))
  exact aW aa (aC aa) (fc hg1)
 refine ad ?_
 refine aZ aa (fun h13=> ?_) (fun h13=> ?_)
 ·have hbad:kd<0∨18≤kd:=by simpa using h13
  have hres:oK (kd,ns)=[63]:=by unfold oK;rw[if_pos hbad]
  refine ac (ab (kPa aa aa (ad (ay ?_))))
  exact ar results13 aa (fun w hw=>⟨by rw[hres],(hw.dp [0])⟩)
 ·have hok:¬ (kd<0∨18≤kd):=by intro h;simp at h13;omega
  have hk18:kd.toNat<18:=by omega
  have hres:oK (kd,ns)=ns.foldl (fun l n=>l++([32]++Lib.decDigits n.toNat)) (fw kd.toNat):=by unfold oK;rw[if_neg hok]
  have hf0:=Cd kd.toNat hk18
  refine aq (ac (ab (kPl iD isAgg29 aa aa aa aa (kPv (mE (m:=kd.toNat*2) runUnderlying62 sizeOf61 aa aa (by omega) (by omega) (by omega)) aa (kPv (aE (m:=_) wm aa aa) aa (kPv (tF isAgg9 aa (AT fg hk18)) aa (kPa aa aa (ad (am [3,2,1] rfl (ac (ac ?_)))))))))))
  refine ab (kPl iC isAgg30 aa aa aa aa (kPv (bD aa runUnderlying30 ⟨_,rfl⟩ rfl) aa (kPm aa aa (ad (aF (cC (ι:=Nat×List UInt8) [21,20,2] (fun (k,o)=>(k≤ns.length)∧(o=((ns.take k).foldl (fun l n=>l++([32]++Lib.decDigits n.toNat)) (fw kd.toNat)))∧(o.length≤7+k*21)) (fun (k,o)=>[(22,i64 k),(3,str o)]) (fun (k,o)=>row b1 [i64 kd,.slice q ns.length cap] 32::Fr) (fun (k,o)=>ns.length - k) (0,fw kd.toNat) (⟨Nat.zero_le _,by simp,by omega⟩) (fun a w st=>st.to ⟨rfl,rfl,trivial⟩ (fun hh=>hh)) ?_))))))
  rintro⟨k,o⟩ ⟨hk0,ho,hol⟩
  try simp only at hk0 ho hol ⊢
  refine cg (σ':=[(22,i64 k),(3,str o),(21,_),(20,_),(2,_)]) (aC aa) (ac (ab (kPv (al aa aa aa) aa (ad (ac ?_)))))
  refine aZ aa (fun h23=> ?_) (fun h23=> ?_)
  ·have hk:k<ns.length:=by simp at h23;omega
   obtain⟨bq,oq,rfl⟩:=hq k hk
   have hd20:=ry (ns[k]).toNat (by have:=hnb _ (List.getElem_mem hk);omega)
   refine aq (ac (aF (ac (ab (kPv (cq runUnderlying30 sizeOf25 aa aa (by omega) (by omega)) aa (kPv (bP (v:=w64 ns[k]) isAgg25 hr.up aa (by rw[Int.toNat_natCast];exact ye hk)) aa (kPa aa aa (ad (ab (kPm aa aa (kPm aa aa ?_)))))))))))
   refine ax aa (au call21 aa) (xn B _ gl (hnb _ (List.getElem_mem hk))) .free aa aa ?_
   refine ak aa (wq aa aa (by first | omega | (simp only[List.length_append,List.length_cons,List.length_nil];omega))) .free aa aa ?_
   refine ak aa (wq aa aa (by first | omega | (simp only[List.length_append,List.length_cons,List.length_nil];omega))) .free aa aa ?_
   refine kPa aa aa (ad (am [3,22,21,20,2] rfl (ab (kPv (aL aa aa) aa (kPm aa aa (ad ?_))))))
   exact fun a w st_=>⟨(k+1,o++([32]++Lib.decDigits (ns[k]).toNat)),⟨by first | omega | (simp only;omega),by rw[wH hk,ho],by simp only[List.length_append,List.length_cons,List.length_nil];omega⟩,by first | omega | (simp only;omega),st_.to (aC aa) (fun hh=>hh)⟩
  ·have hk:k=ns.length:=by simp at h23;omega
   refine bB (ac (ab (kPm aa aa (kPa aa aa (ad (ay ?_))))))
   exact ar results13 aa (fun w hw=>⟨by rw[hres,ho,hk,List.take_length],(hw.dp [0])⟩)
theorem AD{l:List UInt8}{c:UInt8}(h:¬ Lib.indexByte l c<0):∃ i:Nat,Lib.indexByte l c=i∧i<l.length:=by
 rcases iY l c with h1 | h1
 ·omega
 ·exact h1
theorem vw{c:UInt8}{N:Nat}:∀ (k:Nat) (l:List UInt8),l.length≤k→l.length≤N→∀ p∈spl c l,p.length≤N
 | 0,l,h,_,p,hp=>by
   obtain rfl:=List.eq_nil_of_length_eq_zero (Nat.le_zero.1 h)
   simp[spl] at hp;subst hp;exact Nat.zero_le _
 | k+1,l,h,hN,p,hp=>by
   rcases iY l c with h1 | ⟨i,h1,h2⟩
   ·rw[nT h1] at hp;rw[List.mem_singleton.1 hp];exact hN
   ·rw[lE h1] at hp
    rcases List.mem_cons.1 hp with rfl | hp
    ·rw[List.length_take];omega
    ·exact vw k (l.drop (i+1)) (by rw[List.length_drop];omega) (by rw[List.length_drop];omega) p hp
theorem Af(B:World)(Fr:List HP)(s:List UInt8):
 ∀ w,Holds B Fr w→Calls Tryz.prog 51 [str s,.string ⟨#[10]⟩,i64 0].toArray w (Ret B (fun v H'=>∃ b1 b2 b3,v= .func (.func 94) [].toArray [ptr b2,ptr b1,ptr b3].toArray∧H'=row b3 [i64 0] 3::row b2 [.string ⟨#[10]⟩] 9::row b1 [str s] 9::Fr) (fun _ _=>False)):=by
 refine ao func51 aa ntmps51 aa (ac (ab (kPb (dF aa aa) aa fun b3=>(kPb (dF aa aa) aa fun b4=>(kPb (dF aa aa) aa fun b5=>(kPa aa aa (ad (ac (ab (kPv (dt aa aa) aa (kPa aa aa ?_)))))))))))
 refine ad (am [6] rfl (ay ?_))
 exact ar results51 aa (fun w hw=>⟨_,⟨_,_,_,rfl,rfl⟩,hw⟩)
theorem ya(B:World)(Fr:List HP)(s:List UInt8):
 ∀ w,Holds B Fr w→Calls Tryz.prog 26 [str s,.string ⟨#[10]⟩].toArray w (Ret B (fun v H'=>∃ b1 b2 b3,v= .func (.func 94) [].toArray [ptr b2,ptr b1,ptr b3].toArray∧H'=row b3 [i64 0] 3::row b2 [.string ⟨#[10]⟩] 9::row b1 [str s] 9::Fr) (fun _ _=>False)):=by
 refine ao func26 aa ntmps26 aa (ac (ab (kPa aa aa (ad (ac (ab (kPm aa aa (kPm aa aa (aJ aa (au call51 aa) (Af _ _ s) .free aa aa ?_)))))))))
 rintro _ _ ⟨b1,b2,b3,rfl,rfl⟩
 refine kPa aa aa (ad (ay ?_))
 exact ar results26 aa (fun w hw=>⟨_,⟨_,_,_,rfl,rfl⟩,hw⟩)
theorem yb(B:World)(E:List HP)[cV E B](l f b1 b2 b3 N:Nat)(s:List UInt8)(hs:s.length≤N)(hN:N≤1000000)(ι:Type)(r:Loop)(hrf:r.fn=f)(hrp:r.params.size=1)(I:ι→Prop)(Hx:ι→List HP)(cd:ι→Code)(st:List UInt8→ι→Bool×ι)(x0:ι)(h0:I x0)(hround:∀ (p:List UInt8) (x:ι),p.length≤N→I x→I (st p x).2∧∀ (E:List HP) [cV E B] w,Holds B (blk l (.loop r)::(Hx x++E)) w→RoundIn (Wd (cxF f)) 0 Tryz.prog l f ((r.params.zip [str p].toArray).foldl (fun tmps (t,a)=>tmps.setIfInBounds t a) r.tmps) r.assign r.body w (Ret B (fun rv H'=>rv= .bool (st p x).1∧H'=blk l (.loop (lst r cd (st p x)))::(Hx (st p x).2++E)) (fun _ _=>False))):
 ∀ w,Holds B (row b1 [str s] 9::row b2 [.string ⟨#[10]⟩] 9::row b3 [i64 0] 3::blk l (.loop r)::(Hx x0++E)) w→Calls Tryz.prog 94 [.func (.yield l) #[] #[],ptr b2,ptr b1,ptr b3].toArray w (Ret B (fun _ H'=>I (itl st (spl 10 s) x0).2∧H'=blk l (.loop (lst r cd (itl st (spl 10 s) x0)))::(Hx (itl st (spl 10 s) x0).2++E)) (fun _ _=>False)):=by
 refine ao func94 aa ntmps94 aa (ac (ac (ab (kPv (ai isAgg9 aa aa) aa (kPv (iE aa runUnderlying9 aa) aa (kPv (al aa aa aa) aa (ad (bH aa (rfl) (aq (ac (aF ?_)))))))))))
 refine cC (ι:=List UInt8×ι) [0,1,2,3] (fun (q,x)=>(q.length≤s.length)∧(I x)∧(itl st (spl 10 s) x0=itl st (spl 10 q) x)) (fun (q,x)=>[]) (fun (q,x)=>row b1 [str q] 9::row b2 [.string ⟨#[10]⟩] 9::row b3 [i64 0] 3::blk l (.loop r)::(Hx x++E)) (fun (q,x)=>q.length) (s,x0) (⟨Nat.le_refl _,h0,rfl⟩) (fun a w st=>st.to trivial (fun hh=>hh)) ?_
 rintro⟨q,x⟩ ⟨hq,hIx,hinv⟩
 try simp only at hq hIx hinv ⊢
 refine cg (σ':=[(0,_),(1,_),(2,_),(3,_)]) (aC aa) (aF (ac (ab (kPv (ai isAgg9 aa aa) aa (kPv (ai isAgg9 aa aa) aa (ax aa (au call41 aa) (Ag _ q 10) .free aa aa ?_))))))
 refine kPa aa aa (ad (ac (ac (ab (kPm aa aa (kPv (al aa aa aa) aa (ad ?_)))))))
 refine aZ aa (fun h33=> ?_) (fun h33=> ?_)
 ·have hneg:Lib.indexByte q 10= -1:=rb (by simpa using h33)
  refine bB (ab (kPm aa aa (kPv (ai isAgg9 aa aa) aa ?_)))
  refine fP (f:=f) (r:=r) (H1:=Hx x++(row b1 [str q] 9::row b2 [.string ⟨#[10]⟩] 9::row b3 [i64 0] 3::E)) aa aa (fun w hh=>hh.perm (vI (Hx x) E)) (by rw[hrp];rfl) hrf ((hround q x (by omega) hIx).2 (row b1 [str q] 9::row b2 [.string ⟨#[10]⟩] 9::row b3 [i64 0] 3::E)) .free aa ?_ ?_
  rotate_left
  ·rintro _ _ ⟨⟩
  rintro _ _ ⟨rfl,rfl⟩
  refine aN (fun w hh=>hh.perm (vI (Hx (st q x).2) E).symm) (ad (am [] rfl ?_))
  exact cP results94 (fun w hh=>⟨_,⟨by rw[hinv,nT hneg,AC];exact(hround q x (by omega) hIx).1,by rw[hinv,nT hneg,AC]⟩,(hh.dp [0,0,0])⟩)
 ·obtain⟨i,hi,hil⟩:=AD (show ¬ Lib.indexByte q 10<0 by simpa using h33)
  rw[hi]
  refine aq (ac (ab (kPv (ai isAgg9 aa aa) aa (kPm aa aa (kPv (ai isAgg3 aa aa) aa (kPv (iN aa aa (show IntKind.i64.wrap ((i:Int)+0)=i by rw[Int.add_zero];exact fL (by omega))) aa (kPv (mD runUnderlying9 aa aa (by omega) (by omega)) aa (kPa aa aa (ad (am [8,7,0,1,2,3] rfl (ac ?_)))))))))))
  refine ac (ab (kPm aa aa (kPm aa aa ?_)))
  refine fP (f:=f) (r:=r) (H1:=Hx x++(row b1 [str q] 9::row b2 [.string ⟨#[10]⟩] 9::row b3 [i64 0] 3::E)) aa aa (fun w hh=>hh.perm (vI (Hx x) E)) (by rw[hrp];rfl) hrf ((hround (q.take i) x (by rw[List.length_take];omega) hIx).2 (row b1 [str q] 9::row b2 [.string ⟨#[10]⟩] 9::row b3 [i64 0] 3::E)) .free aa ?_ ?_
  rotate_left
  ·rintro _ _ ⟨⟩
  rintro _ _ ⟨rfl,rfl⟩
  refine aN (fun w hh=>hh.perm (vI (Hx (st (q.take i) x).2) E).symm) (kPv (bj aa) aa (ad ?_))
  refine aZ aa (fun h42=> ?_) (fun h42=> ?_)
  ·have hg:(st (q.take i) x).1=false:=by simpa using h42
   have hres:itl st (spl 10 s) x0=st (q.take i) x:=by rw[hinv,lE hi];exact xf hg
   refine ay ?_
   exact iV results94 (fun w hh=>⟨_,⟨by rw[hres];exact(hround (q.take i) x (by rw[List.length_take];omega) hIx).1,by rw[hres]⟩,(hh.dp [0,0,0])⟩)
  ·have hg:(st (q.take i) x).1=true:=by simpa using h42
   have hlr:lst r cd (st (q.take i) x)=r:=by unfold lst;rw[if_pos hg]
   refine aq (ab (kPv (ai isAgg9 aa aa) aa (kPm aa aa (kPv (ai isAgg9 aa aa) aa (kPv (iE aa runUnderlying9 aa) aa (kPv (iN aa aa (show IntKind.i64.wrap ((i:Int)+(([10]:List UInt8).length:Int))=((i+1:Nat):Int) by simp only[List.length_cons,List.length_nil];rw[fL (by omega)];omega)) aa (kPv (qA (i:=((i+1:Nat):Int)) runUnderlying9 aa aa (by omega) (by omega)) aa ?_)))))))
   refine kPs (aO sizeOf9 aa aa (by first | rfl | assumption) rfl) rfl ?_;refine ad ?_;refine am [0,1,2,3] rfl ?_
   exact fun a w st_=>⟨(q.drop (i+1),(st (q.take i) x).2),⟨by rw[List.length_drop];omega,(hround (q.take i) x (by rw[List.length_take];omega) hIx).1,by rw[hinv,lE hi];simp only[itl];rw[if_pos hg]⟩,by rw[List.length_drop];omega,st_.to (aC aa) (fun hh=>(by have hh:=hh;rw[hlr] at hh;exact hh))⟩
theorem lz:∀ (l:List UInt8) (st:Option (List UInt8)),(tok l st).length≤l.length+1∧∀ p∈tok l st,p.length≤l.length+(st.getD []).length
 | [],st=>by cases st<;>simp[tok]
 | x::t,st=>by
   have h1:=lz t none
   have h2:=lz t (some (st.getD []++[x]))
   unfold tok
   split
   ·cases st with
    | none=>exact⟨by simp only[List.length_cons];omega,fun p hp=>by have:=h1.2 p hp;simp at this ⊢;omega⟩
    | some c=>
      refine⟨by simp only[List.length_cons];omega,fun p hp=> ?_⟩
      rcases List.mem_cons.1 hp with rfl | hp
      ·simp
      ·have:=h1.2 p hp;simp at this ⊢;omega
   ·exact⟨by simp only[List.length_cons];omega,fun p hp=>by have:=h2.2 p hp;simp at this ⊢;omega⟩
theorem pM{p:List UInt8}(hp:p.length≤100000)(i:Nat):((tok (bM p) none).getD i []).length≤1000000:=by
 have h:=(lz (bM p) none).2
 have h2:=l8 p
 rw[List.getD_eq_getElem?_getD]
 cases e:(tok (bM p) none)[i]? with
 | none=>simp
 | some q=>have:=h q (List.mem_of_getElem? e);simp at this ⊢;omega
theorem vo{p:List UInt8}(hp:p.length≤100000):(tok (bM p) none).length≤1000000:=by
 have h:=(lz (bM p) none).1
 have h2:=l8 p
 omega
theorem sy(B:World)(Fr:List HP)[cV Fr B](gl:GL B)(fg:FG B)(s:List UInt8):
 ∀ w,Holds B Fr w→Calls Tryz.prog 14 [str s].toArray w (Ret B (fun rv H'=>∃ sv,aM sv=true∧rv= .tuple #[sv,i64 (cG s).2.1,i64 (cG s).2.2]∧H'=f9 0 (sv,(cG s).1)::Fr) (fun _ _=>False)):=by
 refine eF func14 aa ntmps14 aa (ac (ab (kPb (cf zeroValue24 aa) aa fun b2=>(kPb (cf zeroValue3 aa) aa fun b3=>(kPb (cf zeroValue36 aa) aa fun b4=>(ad (wg (ac (ac (ab (kPm aa aa ?_)))))))))))
 refine kPv (iE aa runUnderlying9 aa) aa (kPv (al aa aa aa) aa (ad ?_))
 refine aZ aa (fun h13=> ?_) (fun h13=> ?_)
 ·have hsl:65536<s.length:=by simp at h13;omega
  have hres:cG s=([],0,11):=by unfold cG;rw[if_pos hsl]
  refine ac (ab ?_)
  refine kPs (aO sizeOf24 aa aa (by first | rfl | assumption) rfl) rfl ?_;refine kPs (aO sizeOf3 aa aa aa aa) aa ?_;refine kPs (aO sizeOf36 aa aa aa aa) aa ?_;refine ad ?_;refine ay ?_
  exact qR results14 (.nil) (.aM aa isAgg24 aa) (.aM aa isAgg3 aa) (.aM aa isAgg36 aa) (fun w hh=>⟨_,⟨.slice none 0 0,rfl,by rw[hres],rfl⟩,by rw[hres];exact fV ((hh.dp [0,0,0]))⟩)
 ·have hsl:s.length≤65536:=by simp at h13;omega
  refine aq (ac (ab (kPb (cf zeroValue24 aa) aa fun b5=>(ad (ac (ab (kPb (cf zeroValue3 aa) aa fun b6=>(kPs (aO sizeOf3 aa aa aa aa) aa (ad (ac (wh ?_)))))))))))
  refine ac (ac (ab (kPm aa aa (aJ aa (au call26 aa) (ya B _ s) .free aa aa ?_))))
  rintro _ _ ⟨c1,c2,c3,rfl,rfl⟩
  refine ad (aF (kH aa call94 ?_))
  intro l m tmps hts hkn w hh
  have hk2:=hkn 2 _ rfl
  have hk3:=hkn 3 _ rfl
  have hk4:=hkn 4 _ rfl
  have hk5:=hkn 5 _ rfl
  have hk6:=hkn 6 _ rfl
  refine(yb B (blk m (.deferred (some []))::Fr) l 14 c1 c2 c3 65536 s hsl (by decide) PSt _ aa aa (fun x=>x.2.1.length≤400) (fun x=>[row b6 [i64 x.1] 3,CE b5 x.2.1,row b2 [.slice none 0 0] 24,row b3 [i64 x.2.2.2.1] 3,row b4 [i64 x.2.2.2.2] 36]) (fun _=> .ret) stP p0 (Nat.zero_le _) ?_ w (by have h1:=(hh.pk [6,4,3,2,0,1,3,2,1]);exact(jm aa ((fV h1).pk [1])).pk [1,1,1,1,1])).mono (Ret.mono ?_ fun _ _ h=>h.elim)
  ·intro p x hpl hxl
   refine⟨?_,fun E hE=> ?_⟩
   ·unfold stP;simp only;split
    ·exact hxl
    ·split
     ·exact hxl
     ·split
      ·exact hxl
      ·simp only[List.length_append,List.length_cons,List.length_nil];omega
   simp only[List.cons_append,List.nil_append]
   refine gH (n:=42) (σ:=[(16,str p),(2,ptr b2),(3,ptr b3),(4,ptr b4),(5,ptr b5),(6,ptr b6)]) func14 (by simp[fJ,hts]) (KnA.knows (by simp[KnA,fJ,hts];exact⟨(Array.getElem?_eq_some_iff.1 hk2).2,(Array.getElem?_eq_some_iff.1 hk3).2,(Array.getElem?_eq_some_iff.1 hk4).2,(Array.getElem?_eq_some_iff.1 hk5).2,(Array.getElem?_eq_some_iff.1 hk6).2⟩)) aa ?_
   refine ab (kPa aa aa (ad (kb (aF (ac (ab (kPv (ai isAgg3 aa aa) aa (kPv (iN aa aa aa) aa (kPs (aO sizeOf3 aa aa aa aa) aa (ad (ac ?_)))))))))))
   refine ab (kPm aa aa (aJ aa (au call27 aa) (xV _ _ p (by omega)) .free aa aa ?_))
   rintro sv _ rfl
   refine kPa aa aa (ad (ac (ac (ny fun q cap hq hcap hqi=> ?_))))
   subst hq
   refine ab (kPm aa aa (kPv (bD aa runUnderlying50 ⟨_,rfl⟩ rfl) aa (kPv (al aa aa aa) aa (ad (am [23,8,2,3,4,5,6] rfl ?_)))))
   refine aZ aa (fun h23=> ?_) (fun h23=> ?_)
   ·have hws:(tok (bM p) none)=[]:=List.eq_nil_of_length_eq_zero (by simp at h23;simpa using h23)
    refine bB ?_
    have hst:stP p x=(true,IntKind.i64.wrap (x.1+1),x.2.1,x.2.2):=by unfold stP;simp only;rw[if_pos hws]
    refine aR [1] ?_
    exact ka fun w hh=>⟨_,⟨by rw[hst],rfl⟩,by rw[hst];exact(hh.dp [1])⟩
   ·have hws:¬ (tok (bM p) none)=[]:=fun e=>by simp[e] at h23
    refine aq (ac (ac (aR [3] (wb fun rv hrv=>(aR [1] (rk fun rs hrs=>(lP fun q2 cap2 hq2 hqi2=> ?_)))))))
    subst hq2
    have hrl:rs.length=x.2.1.length:=by rw[←hrs.1,List.length_map]
    refine ab (kPv (ai isAgg24 aa aa) aa (kPv (bD aa runUnderlying24 ⟨_,rfl⟩ rfl) aa (kPv (al aa aa aa) aa (ad ?_))))
    refine aZ aa (fun h26=> ?_) (fun h26=> ?_)
    ·have h400:x.2.1.length=400:=by simp at h26;omega
     refine ac (cN [0,1,2,3] [1,2,3] [0] [1] [row b6 ([i64 x.1].set 0 (i64 (IntKind.i64.wrap (x.1+1)))) 3] Tryz.mixed (by kernel_rfl) ?_)
     refine an aa aa aa (ai isAgg3 aa aa) .free aa (aS aa aa ?_)
     refine kPs (aO sizeOf24 aa aa (by first | rfl | assumption) rfl) rfl ?_;refine ad ?_;refine cO ?_;refine aS aa aa ?_;refine kPs (aO sizeOf3 aa aa aa aa) aa ?_;refine ad ?_
     refine c6 aa (aS aa aa (kPs (aO sizeOf36 aa aa aa aa) aa (ad (c6 aa (cF (ay ?_))))))
     have hst:stP p x=(false,IntKind.i64.wrap (x.1+1),x.2.1,[],IntKind.i64.wrap (x.1+1),11):=by unfold stP;simp only;rw[if_neg hws,if_pos (by omega)]
     refine aR [4] ?_
     exact wc fun w hh=>⟨_,⟨by rw[hst],rfl⟩,by rw[hst];exact(by have h1:=((hh.dp [4]).pk [1,1,1]);exact(jm hrv ((fp hrs h1).pk [1])).pk [1,1])⟩
    ·have h400:¬ x.2.1.length=400:=by simp at h26;omega
     refine aq (ac ?_)
     obtain⟨bq,oq,rfl⟩:=hqi (by cases h:(tok (bM p) none) with | nil=>exact absurd h hws | cons a t=>simp)
     have hwl0:0<(tok (bM p) none).length:=by cases h:(tok (bM p) none) with | nil=>exact absurd h hws | cons a t=>simp
     refine ab (kPm aa aa (aR [3] (aJ aa (au call28 aa) (yL B _ gl fg (tok (bM p) none) (by omega) (vo (by omega)) (pM (by omega)) _ _ _ hcap (jW 0 aa)) .free aa aa ?_)))
     rintro _ _ ⟨sv9,hsv9,rfl,rfl⟩
     refine kPm aa aa (kPv (aA aa aa) aa (kPv (aA aa aa) aa (kPb (aD zeroValue32 aa) aa fun b9=>(kPs (az (vs:=[i64 (cH (tok (bM p) none)).1.1,sv9]) sizeOf32 aa aa aa (show([i64 (cH (tok (bM p) none)).1.1,sv9]:List Value).all aM=true by simp only[List.all_cons,List.all_nil,hsv9];rfl) aa) aa (kPa aa aa (ad (am [10,9,2,3,4,5,6] rfl (ac (ac (ab (kPm aa aa ?_)))))))))))
     refine kPv (al aa aa aa) aa (ad ?_)
     refine aZ aa (fun h34=> ?_) (fun h34=> ?_)
     ·have he0:(cH (tok (bM p) none)).2≠0:=by simpa using h34
      refine ac (cN [0,1,2,3,4] [2,3,4] [0,1] [2,3] [row b6 ([i64 x.1].set 0 (i64 (IntKind.i64.wrap (x.1+1)))) 3] Tryz.mixed (by kernel_rfl) ?_)
      refine an aa aa aa (ai isAgg3 aa aa) .free aa (an aa aa aa (aj aa) .free aa (aS aa aa ?_))
      refine kPs (aO sizeOf24 aa aa (by first | rfl | assumption) rfl) rfl ?_;refine ad ?_;refine cO ?_;refine aS aa aa ?_
      refine kPs (aO sizeOf3 aa aa aa aa) aa (ad (cO (aS aa aa (kPs (aO sizeOf36 aa aa aa aa) aa (ad (c6 aa (cF (ay ?_))))))))
      have hst:stP p x=(false,IntKind.i64.wrap (x.1+1),x.2.1,[],IntKind.i64.wrap (x.1+1),(cH (tok (bM p) none)).2):=by unfold stP;simp only;rw[if_neg hws,if_neg (by omega),if_pos he0]
      refine aR [6] ?_
      exact wc fun w hh=>⟨_,⟨by rw[hst],rfl⟩,by rw[hst];exact(by have h1:=((hh.dp [1,1,1]).pk [1,1,1]);exact(jm hrv ((fp hrs h1).pk [1])).pk [1,1])⟩
     ·have he0:(cH (tok (bM p) none)).2=0:=by simpa using h34
      refine aq (aR [1] (tk fun q3 c3 hq3=> ?_))
      subst hq3
      refine ab (kPv (ai isAgg24 aa aa) aa (kPv (ah isAgg32 sizeOf32 aa aa) aa ?_))
      refine kPb (lm nb (v:=((cH (tok (bM p) none)).1.1,(q3,(cH (tok (bM p) none)).1.2.length,c3),(cH (tok (bM p) none)).1.2)) runUnderlying24 sizeOf32 zeroValue32 ⟨⟨by decide,by decide⟩,rfl⟩ rfl aa) aa fun b39=>(aR [4,0] (cJ aa (fX nb (ys:=[((cH (tok (bM p) none)).1.1,(q3,(cH (tok (bM p) none)).1.2.length,c3),(cH (tok (bM p) none)).1.2)]) aa aa runUnderlying24 runUnderlying24 ⟨_,rfl⟩ sizeOf32 zeroValue32 aa Br aa aa (SlM.row (b:=b39) aa aa) (Nat.succ_pos _) (by simp;omega)) .free aa aa ?_))
      rintro rv2 _ ⟨hrv2,rfl⟩
      refine kPs (aO sizeOf24 aa aa (by first | rfl | assumption) rfl) rfl ?_;refine ad ?_;refine am [2,3,4] rfl ?_
      have hst:stP p x=(true,IntKind.i64.wrap (x.1+1),x.2.1++[(cH (tok (bM p) none)).1],x.2.2):=by unfold stP;simp only;rw[if_neg hws,if_neg (by omega),if_neg (by simpa using he0)]
      refine aR [7] ?_
      exact ka fun w hh=>⟨_,⟨by rw[hst],rfl⟩,by rw[hst];exact(by have h1:=((hh.dp [2,3,3]).pk [3,2,1,1]);have h2:=pY (t:=((cH (tok (bM p) none)).1.1,(q3,(cH (tok (bM p) none)).1.2.length,c3),(cH (tok (bM p) none)).1.2)) h1;exact(jm hrv2 ((fp (hrs.push aa) (h2.pk [1])).pk [1])).pk [1,1])⟩
  rintro _ _ ⟨_,rfl⟩
  simp only[List.cons_append,List.nil_append]
  refine⟨_,_,fun w hh=>hh,j3 (by simp[fJ]),fun hp=> ?_,fun c' hc'=> ?_⟩
  rotate_left
  ·obtain⟨h1,rfl⟩:=j2 rfl hc'
   refine ay ?_
   have hres:cG s=(itl stP (spl 10 s) p0).2.2.2:=by unfold cG;rw[if_neg (by omega),if_neg (by rw[h1];decide)]
   have hbad:=qM _ _ h1
   exact qR results14 (.at 6 .nil) (.aM aa isAgg24 aa) (.aM aa isAgg3 aa) (.aM aa isAgg36 aa) fun w hh=>⟨_,⟨.slice none 0 0,rfl,by rw[hres],rfl⟩,by rw[hres,hbad];exact fV ((hh.dp [0,0,0,0,0,0,0]))⟩
  have hres:cG s=((itl stP (spl 10 s) p0).2.2.1,0,0):=by unfold cG;rw[if_neg (by omega),if_pos (sT hp)]
  refine aR [2] (wb fun rv hrv=>(ac (ab (kPv (ai isAgg24 aa aa) aa ?_))))
  refine kPs (aO sizeOf24 aa aa (by first | rfl | assumption) rfl) rfl ?_;refine kPs (aO sizeOf3 aa aa aa aa) aa ?_;refine kPs (aO sizeOf36 aa aa aa aa) aa ?_;refine ad ?_;refine am [4,3,2] rfl ?_;refine ay ?_
  exact qR results14 (.at 7 (.nil)) (.aM aa isAgg24 aa) (.aM aa isAgg3 aa) (.aM aa isAgg36 aa) (fun w hh=>⟨_,⟨rv,hrv,by rw[hres],rfl⟩,by rw[hres];exact(hh.dp [0,1,1,1,1,1,1])⟩)
end Go.Proofs.YtoakdoeajpjgkaaGreatDoor
