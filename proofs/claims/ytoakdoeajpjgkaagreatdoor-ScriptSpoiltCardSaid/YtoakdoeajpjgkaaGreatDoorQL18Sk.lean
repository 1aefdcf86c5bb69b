/- Part of a law's texts. Conditions: none. -/
import Derived.Test.YtoakdoeajpjgkaaGreatDoorQL18Sj
open Go.Proofs.Tryz
set_option linter.all false
namespace Go.Proofs.YtoakdoeajpjgkaaGreatDoor
open Go
theorem rq:∀ (k:Nat) (i:Int) (S S':bF) (s s':Dev),fj S→U64 s→S.todo=[]→jY k i S s= .ok S' s'→fj S'∧U64 s'∧S'.scan=S.scan∧S'.todo=[]∧S'.done=S.done∧S'.b=S.b∧S'.bd=S.bd∧S'.c=S.c∧S'.to_=S.to_∧S.free≤S'.free∧S'.free - S.free+66*(S.b.used.toNat - S'.went.length:Nat)≤66*(S.b.used.toNat - S.went.length:Nat)
 | 0,_,S,S',s,s',h,hu,ht,e=>by cases e;exact⟨h,hu,rfl,ht,rfl,rfl,rfl,rfl,rfl,Int.le_refl _,by omega⟩
 | k+1,i,S,S',s,s',h,hu,ht,e=>by
   unfold jY at e
   split at e
   ·exact rq k _ S S' s s' h hu ht e
   ·obtain⟨r,s1,e1,e⟩:=aJ e
    obtain⟨_,s2,e2,e⟩:=aJ e
    obtain⟨h1,hv,h2,h3,h4,h5,h6,h7,h8,h9,h10⟩:=mx h e1
    have u1:=jT hu e1
    have u2:=cy u1.1 (by omega) e2
    obtain⟨g1,gu,g2,g3,g4,g5,g6,g7,g8,g9,g10⟩:=rq k _ r.2 S' s2 s' h1 u2.1 (h3.trans ht) e
    rw[h5] at g10
    exact⟨g1,gu,g2.trans h2,g3,g4.trans h4,g5.trans h5,g6.trans h6,g7.trans h7,g8.trans h8,Int.le_trans h9 g9,by omega⟩
theorem qF:∀ (f:Nat) (i e:Int) (s s':Dev) (a:Unit),U64 s→l5 f i e s= .ok a s'→U64 s'
 | 0,_,_,s,s',a,h,e=>by cases e;exact h
 | f+1,i,e',s,s',a,h,e=>by
   unfold l5 at e
   split at e
   ·obtain⟨_,s1,e1,e⟩:=aJ e
    exact qF f _ _ s1 s' a (dI h e1).1 e
   ·cases e;exact h
theorem zt{S:bF}{s s':Dev}{a:Unit}(h:U64 s)(e:S.keep s= .ok a s'):U64 s':=by
 unfold bF.keep at e
 obtain⟨_,s1,e1,e⟩:=aJ e
 have h1:=qF _ _ _ _ _ _ h e1
 split at e
 ·exact(eP h1 e).1
 ·cases e;exact h1
theorem rh{S:bF}(h:fj S){s s':Dev}(hu:U64 s){r:Bool×bF}(e:S.step s= .ok r s'):fj r.2∧U64 s'∧r.2.b=S.b∧r.2.bd=S.bd∧r.2.c=S.c∧r.2.to_=S.to_∧r.1=r.2.done∧(r.1=false→r.2.meas<S.meas):=by
 have hwl:=h.wl;have hfb:=h.fb
 unfold bF.step at e
 split at e
 ·rename_i hd;cases e;exact⟨h,hu,rfl,rfl,rfl,rfl,hd.symm,fun hh=>by cases hh⟩
 rename_i hd
 have hd0:S.done=false:=by simpa using hd
 split at e
 ·rename_i w t ht
  obtain⟨r1,s1,e1,e⟩:=aJ e
  cases e
  obtain⟨h1,_,h2,h3,h4,h5,h6,h7,h8,h9,h10⟩:=mx h e1
  refine⟨⟨h1.c,h1.b,h1.rl,h1.to_,h1.scan,h1.free,h1.nd,h1.rng,h1.val,fun v hv=>h.todo v (by rw[ht];exact List.mem_cons_of_mem _ hv),h1.rts⟩,(jT hu e1).1,h5,h6,h7,h8,by simp only[h4,hd0],fun _=> ?_⟩
  unfold bF.meas
  simp only[ht,h2,h4,h5,List.length_cons]
  split<;>omega
 ·rename_i ht
  have hub:=qh (s.load S.scan)
  split at e
  ·rename_i hlt
   obtain⟨S1,s1,e1,e⟩:=aJ e
   cases e
   obtain⟨h1,gu,h2,h3,h4,h5,h6,h7,h8,h9,h10⟩:=rq _ _ _ _ _ _ h hu ht e1
   have hsc:=h.scan
   refine⟨⟨h1.c,h1.b,h1.rl,h1.to_,⟨by have:=h1.scan;simp only;omega,by simp only;omega⟩,h1.free,h1.nd,h1.rng,h1.val,h1.todo,h1.rts⟩,gu,h5,h6,h7,h8,by simp only[h4,hd0],fun _=> ?_⟩
   unfold bF.meas
   simp only[ht,h2,h3,h4,h5]
   split<;>omega
  ·obtain⟨_,s1,e1,e⟩:=aJ e
   cases e
   exact⟨⟨h.c,h.b,h.rl,h.to_,h.scan,h.free,h.nd,h.rng,h.val,h.todo,h.rts⟩,zt hu e1,rfl,rfl,rfl,rfl,rfl,fun hh=>by cases hh⟩
def Ds(x bd:Nat)(sc:Int):HP:=hex fun (y:Nat→Value)=>row x [ptr bd,y 1,y 2,y 3,y 4,y 5,y 6,y 7,i64 sc,y 9,y 10,y 11,y 12] 247
theorem DV{B:World}{x:Nat}{S:bF}{Fr:List HP}{w:World}(h:Holds B (eU x S::Fr) w):Holds B [Ds x S.bd S.scan] w:=by
 obtain⟨p,hx⟩:=h.hex
 refine Holds.unhex (fun i=>(eT S p.1 p.2.1 p.2.2).getD i .nilIface) ?_
 have h2:=hx.grp
 exact h2.map fun k a=>by
  obtain⟨h1,h2,d,s1,s2,ha,hl⟩:=a
  exact⟨h1,h2,d,s1,s2,ha,trivial⟩
instance pS.colf {H Fr:List HP} {x:Nat} {S:bF} [r:pU H (eU x S) Fr]:pS H [Ds x S.bd S.scan]:=⟨fun h hh=>by
 obtain⟨i,h1,h2⟩:=r.get
 obtain⟨k1,k2,d,s1,s2,⟨p,hp⟩,hl⟩:=dx i h1 hh
 obtain⟨g1,g2,d',t1,t2,ha,hg⟩:=hp
 exact⟨g1,fun _=>none,fun _=> .inr aa,t1.trans s1,(fun _ _ e=>nomatch e),⟨fun i=>(eT S p.1 p.2.1 p.2.2).getD i .nilIface,ha⟩,trivial⟩⟩
theorem Ag{B:World}{σ:Env}{P:Program}{α:Type}{A:α→HP}{o:Oper}{v:Value}(h:∀ y,Evs P B σ [A y] o v):Evs P B σ [hex A] o v:=fun a w kn hh=>by
 obtain⟨y,hy⟩:=hh.hex
 exact h y a w kn hy
theorem Bq{B:World}{n:Nat}{D:List Deferred}{σ:Env}{H H0:List HP}{P:Program}{ro:Cx}{K:Act→World→Prop}{X:Ext}{ops:Array Oper}{ms hs cs:List Nat}{ord:List Nat}{c:Bool}(f:∀ w,Holds B H w→Holds B H0 w)(h:GO B n D σ H (wpV P ro ops ms hs cs (Holds B H0) X K ord)):GO B n D σ H (fun a w=>(c=true→Holds B H0 w)∧wpV P ro ops ms hs cs (Holds B H0) X K ord a w):=fun a w s=>⟨fun _=>f w s.holds,h a w s⟩
theorem gC(f:Nat)(i e:Int)(s:Dev):l5 (f+1) i e s=if i<e then (s.flush i).then fun _ s'=>l5 f (i+8) e s' else .ok () s:=rfl
theorem ij(k:Nat)(i:Int)(S:bF)(s:Dev):jY (k+1) i S s=if s.load (S.scan+1+i)=0 then jY k (i+1) S s else (S.copied s (s.load (S.scan+1+i))).then fun r s1=>(s1.store (S.scan+1+i) r.1).then fun _ s2=>jY k (i+1) r.2 s2:=rfl
theorem i6(f:Nat)(S:bF)(s:Dev):uR (f+1) S s=(S.step s).then fun r s'=>if r.1=true then .ok r.2 s' else uR f r.2 s':=rfl
theorem Ay(B:World)(Fr:List HP)(x:Nat)(S:bF)(hS:fj S)(s:Dev)(hu:U64 s):
 ∀ w,Holds B (eU x S::aB S.bd s::Fr) w→Calls Tryz.prog 203 [ptr x].toArray w (Ret B (fun rv H'=>∃ r s',S.keep s= .ok r s'∧rv=B7 r∧H'=eU x {S with done:=true}::aB S.bd s'::Fr) (fun c H'=>∃ s',S.keep s= .off s'∧c=dR∧H'=aB S.bd s'::Fr)):=by
 refine ao func203 aa ntmps203 aa (jN fun rsv tsv mw hrsv htsv=> ?_)
 have hfb:=hS.fb
 have hfr:=hS.free
 have hto:=hS.to_
 refine ac (ac (ab (kPf pG isAgg3 aa aa aa aa (kPa aa aa (ad (aF ?_))))))
 refine cA (ι:=Int×Nat×Dev) [0] (fun (i,n,sI)=>(S.to_≤i∧i≤400000)∧(S.free - i≤n)∧(l5 ((S.free - S.to_).toNat+1) S.to_ S.free s=l5 (n+1) i S.free sI)) (fun (i,n,sI)=>[(2,i64 i)]) (fun (i,n,sI)=>row x (eT S rsv tsv mw) 247::cP 0 (rsv,S.b.rts)::cP 0 (tsv,S.todo)::bz .u64 i64 mw S.went::aB S.bd sI::Fr) (fun (i,n,sI)=>n) (S.to_,(S.free - S.to_).toNat,s) (⟨⟨by first | omega | (simp only;omega),by first | omega | (simp only;omega)⟩,by first | omega | (simp only;omega),rfl⟩) (fun a w st=>st.to ⟨rfl,trivial⟩ (fun hh=>hh)) ?_
 rintro⟨i,n,sI⟩ ⟨hi0,hn,hinv⟩
 try simp only at hi0 hn hinv ⊢
 refine bY (σ':=[(2,i64 i),(0,_)]) ⟨rfl,rfl,trivial⟩ (ac (ac (ab (kPm aa aa (kPf iv isAgg3 aa aa aa aa (kPv (am aa aa aa) aa (ad ?_)))))))
 refine aZ aa (fun h12=> ?_) (fun h12=> ?_)
 ·have hlt:i<S.free:=by simpa using h12
  refine aq (ac (aF (ab (kPf gR isAgg90 aa aa aa aa (kPm aa aa ?_)))))
  refine aU aa (ar call151 aa) (cF (fun Fr=>dy _ Fr _ _ _)) .free aa aa ?_ ?_
  rotate_left
  ·rintro _ _ ⟨s9,⟨hm9,rfl⟩,rfl⟩
   exact bi fun w hh=>⟨_,⟨s9,by unfold bF.keep;rw[hinv,gC,if_pos hlt,hm9];rfl,rfl,rfl⟩,(hh.dp [0,0,0,0])⟩
  rintro _ _ ⟨s1,⟨e1,hm1,rfl⟩,rfl⟩
  refine ad (an [2,0] rfl (ab (kPm aa aa (kPv (aL aa aa) aa (kPa aa aa (ad ?_))))))
  exact fun a w st_=>⟨(i+8,n - 1,s1),⟨by first | omega | (simp only;omega),by first | omega | (simp only;omega),by rw[hinv,gC,if_pos hlt,hm1,show n=n - 1+1 by omega];rfl⟩,by first | omega | (simp only;omega),st_.to ⟨rfl,rfl,trivial⟩ (fun hh=>hh)⟩
 ·have hlt:¬ i<S.free:=by simpa using h12
  refine bC (ac (ac (cK Tryz.mixed (by kernel_rfl) (by kernel_rfl) ?_)))
  refine kQm aa aa (kQv (aK aa) aa (kQv (aE (m:=_) iv aa aa) aa (kQv (ai isAgg3 aa aa) aa (kQm aa aa (kQv (aK aa) aa (kQv (aE (m:=_) pG aa aa) aa (kQv (ai isAgg3 aa aa) aa (kQv (am aa aa aa) aa (cg (an [29,0] rfl ?_))))))))))
  refine aZ aa (fun h29=> ?_) (fun h29=> ?_)
  ·have hgt:S.to_<S.free:=by simpa using h29
   refine ab (kPf gR isAgg90 aa aa aa aa ?_)
   refine aU aa (ar call152 aa) (cF (fun Fr=>eO _ Fr _ _)) .free aa aa ?_ ?_
   rotate_left
   ·rintro _ _ ⟨s9,⟨hm9,rfl⟩,rfl⟩
    exact bi fun w hh=>⟨_,⟨s9,by unfold bF.keep;rw[hinv,gC,if_neg hlt];simp only[aR];rw[if_pos hgt];exact hm9,rfl,rfl⟩,(hh.dp [0,0,0,0])⟩
   rintro _ _ ⟨s2,⟨e2,hm2,rfl⟩,rfl⟩
   refine ad (ab (kPm aa aa (kPv (aK aa) aa (kPv (aE (m:=_) iu aa aa) aa (kPs (aO sizeOf4 aa aa aa aa) aa (ad (an [] rfl ?_)))))))
   exact cS results203 (fun w hh=>⟨_,⟨(),_,by unfold bF.keep;rw[hinv,gC,if_neg hlt];simp only[aR];rw[if_pos hgt];exact hm2,rfl,rfl⟩,cD (S:={S with done:=true}) hrsv htsv hh⟩)
  ·have hgt:¬ S.to_<S.free:=by simpa using h29
   refine aq (ab (kPm aa aa (kPv (aK aa) aa (kPv (aE (m:=_) iu aa aa) aa (kPs (aO sizeOf4 aa aa aa aa) aa (ad ?_))))))
   exact cS results203 (fun w hh=>⟨_,⟨(),_,by unfold bF.keep;rw[hinv,gC,if_neg hlt];simp only[aR];rw[if_neg hgt],rfl,rfl⟩,cD (S:={S with done:=true}) hrsv htsv hh⟩)
theorem ug(B:World)(Fr:List HP)(x:Nat)(S:bF)(v:Int):
 ∀ w,Holds B (eU x S::Fr) w→Calls Tryz.prog 118 [ptr x,w64 v].toArray w (a8 B (eU x S::Fr) (i64 ((bP S.went v).getD 0))):=by
 refine ao func118 aa ntmps118 aa (jN fun rsv tsv mw hrsv htsv=>(ac (ab (kPa aa aa (ad (ac (ab (kPf mh isAgg245 aa aa aa aa (kPm aa aa (kPv ((lD runUnderlying245 runUnderlying25 zeroValue3 aa aa).eq (o7 _)) aa (kPa aa aa ?_)))))))))))
 refine ad (an [4] rfl (az ?_))
 exact au results118 aa (fun w hh=>⟨rfl,cD hrsv htsv hh⟩)
theorem pK(B:World)(Fr:List HP)(x:Nat)(S:bF)(hS:fj S)(s:Dev)(hu:U64 s):
 ∀ w,Holds B (eU x S::aB S.bd s::Fr) w→Calls Tryz.prog 166 [ptr x].toArray w (Ret B (fun rv H'=>∃ r s',S.step s= .ok r s'∧rv= .bool r.1∧H'=eU x r.2::aB S.bd s'::Fr) (fun c H'=>∃ s',S.step s= .off s'∧c=dR∧H'=aB S.bd s'::Fr)):=by
 refine ao func166 aa ntmps166 aa (jN fun rsv tsv mw hrsv htsv=> ?_)
 have hfb:=hS.fb
 have hfr:=hS.free
 have hto:=hS.to_
 have hscan:=hS.scan
 have hub:=qh (s.load S.scan)
 refine ac (ab (kPa aa aa (ad (ac (aF (ac (ab (kPf iu isAgg4 aa aa aa aa (kPa aa aa (ad ?_))))))))))
 refine aZ aa (fun h9=> ?_) (fun h9=> ?_)
 ·have hdone:S.done=true:=h9
  have hres:S.step s= .ok (true,S) s:=by unfold bF.step;rw[if_pos hdone]
  refine aq (ac (ab (kPf iu isAgg4 aa aa aa aa (kPa aa aa (ad (an [2] rfl (az ?_)))))))
  exact au results166 aa (fun w hh=>⟨_,⟨_,_,hres,by rw[hdone],rfl⟩,cD hrsv htsv hh⟩)
 ·have hdone:S.done=false:=h9
  refine aS [2] (cE fun qt ct hqt hqi=> ?_)
  subst hqt
  refine aS [1,1,0,0] (ac (ab (kPf mi isAgg30 aa aa aa aa (kPv (bB aa runUnderlying30 ⟨_,rfl⟩ rfl) aa (kPv (am aa aa aa) aa (kPa aa aa (ad (an [14,2,0] rfl ?_))))))))
  refine aZ aa (fun h14=> ?_) (fun h14=> ?_)
  ·obtain⟨v,t,htd⟩:∃ v t,S.todo=v::t:=by
    cases ht:S.todo with
    | nil=>rw[ht] at h14;simp at h14
    | cons v t=>exact⟨v,t,rfl⟩
   obtain⟨bq,oq,rfl⟩:=hqi 0 (by rw[htd];exact Nat.succ_pos _)
   refine ac (ab (kPm aa aa (kPf mi isAgg30 aa aa aa aa (kPv (bT runUnderlying30 sizeOf25 aa aa (by decide) (by rw[htd];simp only[List.length_cons];omega)) aa (kPv (bH (v:=w64 v) isAgg25 (cQ 2 aa) aa (by rw[htd];rfl)) aa (aN (fun w hh=>cD hrsv htsv hh) ?_))))))
   refine aU aa (ar call202 aa) (pO B _ x S hS s hu v (hS.todo _ (by rw[htd];exact List.mem_cons_self ..))) .free aa aa ?_ ?_
   rotate_left
   ·rintro _ _ ⟨s9,hm9,rfl,rfl⟩
    exact bi fun w hh=>⟨_,⟨s9,by unfold bF.step;rw[if_neg (by rw[hdone];decide)];simp only[htd];rw[hm9];rfl,rfl,rfl⟩,hh⟩
   rintro _ _ ⟨r1,s1,hm1,rfl,rfl⟩
   obtain⟨hS1,hrv1,hsc1,htd1,hdn1,hb1,hbd1,hc1,hto1,hfr1,hms1⟩:=mx hS hm1
   have hu1:=(jT hu hm1).1
   refine ad (an [2,0] rfl (ab (jN fun rsv2 tsv2 mw2 hrsv2 htsv2=>(kPm aa aa (kPm aa aa (kPv (aK aa) aa (kPv (aE (m:=_) mi aa aa) aa (aS [2] (aN (H':=cP 0 (tsv2,v::t)::_) (fun w hh=>by rw[htd1,htd] at hh;exact hh) (kPv (ai isAgg30 aa aa) aa (cI aa (uq (v:=v) (xs:=t) runUnderlying30 sizeOf25 aa aa) .free aa aa ?_)))))))))))
   rintro tv3 _ ⟨htv3,rfl⟩
   refine aS [1,1] (kPv (aK aa) aa (kPv (aE (m:=_) mi aa aa) aa ?_))
   refine kPs (aO sizeOf30 aa aa (by first | rfl | assumption) rfl) rfl ?_;refine ad ?_;refine an [2,0] rfl ?_;refine ac ?_;refine ab ?_;refine kPf iu isAgg4 aa aa aa aa ?_;refine kPa aa aa ?_;refine ad ?_;refine az ?_
   exact au results166 aa (fun w hh=>⟨_,⟨_,_,by unfold bF.step;rw[if_neg (by rw[hdone];decide)];simp only[htd];rw[hm1];rfl,by rw[hdn1,hdone],rfl⟩,cD (S:={r1.2 with todo:=t}) hrsv2 htv3 hh⟩)
  ·have htd:S.todo=[]:=by
    cases ht:S.todo with
    | nil=>rfl
    | cons v t=>rw[ht] at h14;simp at h14<;>omega
   refine ac (cK Tryz.mixed (by kernel_rfl) (by kernel_rfl) ?_)
   refine kQm aa aa (kQv (aK aa) aa (kQv (aE (m:=_) jg aa aa) aa (kQv (ai isAgg3 aa aa) aa (kQm aa aa (kQv (aK aa) aa (kQv (aE (m:=_) iv aa aa) aa (kQv (ai isAgg3 aa aa) aa (kQv (am aa aa aa) aa (kQa aa aa (cg (an [37,2,0] rfl ?_)))))))))))
   refine aZ aa (fun h37=> ?_) (fun h37=> ?_)
   ·have hlt:S.scan<S.free:=by simpa using h37
    have hstep:S.step s=(jY (unp (s.load S.scan)).2.1.toNat 0 S s).then fun S' s'=> .ok (false,{S' with scan:=S'.scan+((unp (s.load S.scan)).1+1)}) s':=by unfold bF.step;rw[if_neg (by rw[hdone];decide)];simp only[htd];rw[if_pos hlt]
    refine ac ?_
    refine iH (.br [0,1,2,3,4,5,6,7] 8 (.br [] 9 (.fin [10,11,12,13,14,15]) 13 (.fin [9,10,11,12,14,15])) 13 (.fin [8,9,10,11,12,14,15])) [8,9,13,14] [0,1,2,3,4,5,6,7,10,11,12] [13,14] [row x (eT S rsv (.slice qt S.todo.length ct) mw) 247] [2,0] (G:=Nat) (fun b3=>[(3,ptr b3),(4,.bool (unp (s.load S.scan)).2.2)]) (fun b3=>row b3 [i64 (unp (s.load S.scan)).1,i64 (unp (s.load S.scan)).2.1] 102::row x (eT S rsv (.slice qt S.todo.length ct) mw) 247::cP 0 (rsv,S.b.rts)::cP 0 (.slice qt S.todo.length ct,S.todo)::bz .u64 i64 mw S.went::aB S.bd s::Fr) Tryz.mixed (by kernel_rfl) ?_ ?_
    ·skip
     refine sG (ak aa aa aa (aj aa) .free aa (ak aa aa aa (aK aa) .free aa (ak aa aa aa (aE (m:=_) gR aa aa) .free aa (ak aa aa aa (ai isAgg90 aa aa) .free aa (ak aa aa aa (aj aa) .free aa (ak aa aa aa (aK aa) .free aa (ak aa aa aa (aE (m:=_) jg aa aa) .free aa (ak aa aa aa (ai isAgg3 aa aa) .free aa (cx ?_)))))))))
     refine ng aa aa ?_ ?_
     ·skip
      refine ay aa (ar call173 aa) (bI (q:=aB) (fun Fr=>cu _ Fr _ _ _)) .free aa aa ?_
      refine ad (sE aa (sG (cx ?_)))
      refine ng aa aa ?_ ?_
      ·skip
       refine ay aa (ar call190 aa) (iW _ _ _) .free aa aa ?_
       refine ad (sE aa (gZ (ak aa aa aa (aj aa) .free aa (ak aa aa aa (aA aa aa) .free aa (ak aa aa aa (aA aa aa) .free aa (aT aa aa (kPb (aD zeroValue102 aa) aa fun b3=>(ad (cN (aT aa aa (kPs (ax (vs:=_) sizeOf102 aa aa aa aa aa) aa ?_)))))))))))
       refine ad (cN (aQ aa aa aa (bu aa) .free aa (cx ?_)))
       exact fun a w st_=>⟨b3,st_.to (aC aa) (fun hh=>hh)⟩
      ·skip
       refine kPb (aD zeroValue102 aa) aa fun b3=>(ad (rb (gZ (aT aa aa (ay aa (ar call190 aa) (iW _ _ _) .free aa aa ?_)))))
       refine ad (c7 aa (ak aa aa aa (aj aa) .free aa (ak aa aa aa (aA aa aa) .free aa (ak aa aa aa (aA aa aa) .free aa (aT aa aa (kPs (ax (vs:=_) sizeOf102 aa aa aa aa aa) aa (ad (cN (aQ aa aa aa (bu aa) .free aa (cx ?_))))))))))
       exact fun a w st_=>⟨b3,st_.to (aC aa) (fun hh=>hh)⟩
     ·skip
      refine kPb (aD zeroValue102 aa) aa fun b3=>(ad (rb (gZ (aT aa aa (ay aa (ar call173 aa) (bI (q:=aB) (fun Fr=>cu _ Fr _ _ _)) .free aa aa ?_)))))
      refine ad (c7 aa (aT aa aa (ay aa (ar call190 aa) (iW _ _ _) .free aa aa ?_)))
      refine ad (c7 aa (ak aa aa aa (aj aa) .free aa (ak aa aa aa (aA aa aa) .free aa (ak aa aa aa (aA aa aa) .free aa (aT aa aa (kPs (ax (vs:=_) sizeOf102 aa aa aa aa aa) aa (ad (cN (aQ aa aa aa (bu aa) .free aa (cx ?_))))))))))
      exact fun a w st_=>⟨b3,st_.to (aC aa) (fun hh=>hh)⟩
    intro b3
    refine bY (σ':=[(3,ptr b3),(4,.bool (unp (s.load S.scan)).2.2),(2,_),(0,_)]) (aC aa) (ac (ac (aS [1,1,1,1] (aN (fun w hh=>cD hrsv htsv hh) (ab (kPl ga isAgg3 aa aa aa aa (kPm aa aa (ad (aF ?_)))))))))
    refine cA (ι:=Nat×bF×Dev) [61,3,2,0] (fun (i,SI,sI)=>((i:Int)≤(unp (s.load S.scan)).2.1)∧(fj SI)∧(U64 sI)∧(SI.todo=[])∧(SI.done=S.done)∧(SI.bd=S.bd)∧(SI.scan=S.scan)∧(jY (unp (s.load S.scan)).2.1.toNat 0 S s=jY ((unp (s.load S.scan)).2.1.toNat - i) i SI sI)) (fun (i,SI,sI)=>[(62,i64 i)]) (fun (i,SI,sI)=>row b3 [i64 (unp (s.load S.scan)).1,i64 (unp (s.load S.scan)).2.1] 102::eU x SI::aB SI.bd sI::Fr) (fun (i,SI,sI)=>(unp (s.load S.scan)).2.1.toNat - i) (0,S,s) (⟨by first | omega | (simp only;omega),hS,hu,htd,rfl,rfl,rfl,rfl⟩) (fun a w st=>st.to ⟨rfl,trivial⟩ (fun hh=>(hh.pk [1]))) ?_
    rintro⟨i,SI,sI⟩ ⟨hi0,hSI,huI,htdI,hdI,hbdI,hscI0,hinv⟩
    try simp only at hi0 hSI huI htdI hdI hbdI hscI0 hinv ⊢
    refine bY (σ':=[(62,i64 i),(61,_),(3,_),(2,_),(0,_)]) (aC aa) (ac (ab (kPv (am aa aa aa) aa (ad (ac ?_)))))
    refine aZ aa (fun h63=> ?_) (fun h63=> ?_)
    ·have hi:(i:Int)<(unp (s.load S.scan)).2.1:=by simpa using h63
     have hscI:=hSI.scan
     refine aq (ac (aF (ac (ab (kPm aa aa (kPa aa aa (ad (ac (aS [1] (jN fun rsv2 tsv2 mw2 hrsv2 htsv2=>(cK Tryz.mixed (by kernel_rfl) (by kernel_rfl) ?_)))))))))))
     refine kQm aa aa (kQv (aK aa) aa (kQv (aE (m:=_) gR aa aa) aa (kQv (ai isAgg90 aa aa) aa (kQm aa aa (kQv (aK aa) aa (kQv (aE (m:=_) jg aa aa) aa (kQv (ai isAgg3 aa aa) aa (kQv (aL aa aa) aa (kQm aa aa (kQv (aL aa aa) aa (bG aa (ar call173 aa) (bI (q:=aB) (fun Fr=>cu _ Fr _ _ _)) .free aa ?_)))))))))))
     refine kQa aa aa (cg (an [6,5,62,61,3,2,0] rfl (ac (aN (fun w hh=>cD hrsv2 htsv2 hh) (ab (kPm aa aa (kPv (am aa aa aa) aa (ad ?_))))))))
     refine aZ aa (fun h78=> ?_) (fun h78=> ?_)
     ·have hne:¬ sI.load (SI.scan+1+i)=0:=by simpa using h78
      refine aS [0,1] (aN (fun w hh=>hh) (cR [0,1,2,3,4,5,6,7,8,9,10,11,12,13,14,15] [13,15] [0,1,2,3,4,5,6,7,8,9,10] [13] [Ds x SI.bd SI.scan] Tryz.mixed (by kernel_rfl) ?_))
      refine ak aa aa aa (aj aa) .free aa (ak aa aa aa (aK aa) .free aa (ak aa aa aa (aE (m:=_) gR aa aa) .free aa (ak aa aa aa (Ag fun y=>ai isAgg90 aa aa) .free aa (ak aa aa aa (aj aa) .free aa (ak aa aa aa (aK aa) .free aa (ak aa aa aa (aE (m:=_) jg aa aa) .free aa (ak aa aa aa (Ag fun y=>ai isAgg3 aa aa) .free aa (ak aa aa aa (aL aa aa) .free aa (ak aa aa aa (aj aa) .free aa (ak aa aa aa (aL aa aa) .free aa (aQ aa aa aa (aj aa) .free aa ?_)))))))))))
      refine aQ aa aa aa (aj aa) .free aa (aT aa aa ?_)
      refine aU aa (ar call202 aa) (pO B _ x SI hSI sI huI (sI.load (SI.scan+1+i)) (huI.load _)) .free aa aa ?_ ?_
      rotate_left
      ·rintro _ _ ⟨s9,hm9,rfl,rfl⟩
       exact bi fun w hh=>⟨_,⟨s9,by rw[hstep,hinv,show(unp (s.load S.scan)).2.1.toNat - i=((unp (s.load S.scan)).2.1.toNat - (i+1))+1 by omega,ij,if_neg hne,hm9];rfl,rfl,rfl⟩,by rw[←hbdI];exact hh.dp [1]⟩
      rintro _ _ ⟨r2,s2,hm2,rfl,rfl⟩
      obtain⟨hS2,hrv2,hsc2,htd2,hdn2,hb2,hbd2,hc2,hto2,hfr2,hms2⟩:=mx hSI hm2
      have hu2:=(jT huI hm2).1
      refine ad (Bq (fun w hh=>by have h5:=DV hh;rw[hbd2,hsc2] at h5;exact h5) (aQ aa aa aa (cZ runUnderlying3 runUnderlying25 aa (dX (by omega))) .free aa (aT aa aa ?_)))
      refine aU aa (ar call145 aa) (cF (fun Fr=>cB _ Fr _ _ _ _)) .free aa aa ?_ ?_
      rotate_left
      ·rintro _ _ ⟨s9,⟨hm9,rfl⟩,rfl⟩
       exact bi fun w hh=>⟨_,⟨s9,by rw[hstep,hinv,show(unp (s.load S.scan)).2.1.toNat - i=((unp (s.load S.scan)).2.1.toNat - (i+1))+1 by omega,ij,if_neg hne,hm2];simp only[aR];rw[hm9];rfl,rfl,rfl⟩,by rw[←hbdI];exact(hh.dp [0,1])⟩
      rintro _ _ ⟨s3,⟨e3,hm3,rfl⟩,rfl⟩
      refine ad (c7 aa (cx (an [62,61,3,2,0] rfl (ab (kPv (aL aa aa) aa (kPm aa aa (ad ?_)))))))
      exact fun a w st_=>⟨(i+1,r2.2,s3),⟨by first | omega | (simp only;omega),hS2,(cy hu2 (by omega) hm3).1,htd2.trans htdI,hdn2.trans hdI,hbd2.trans hbdI,hsc2.trans hscI0,by rw[hinv,show(unp (s.load S.scan)).2.1.toNat - i=((unp (s.load S.scan)).2.1.toNat - (i+1))+1 by omega,ij,if_neg hne,hm2];simp only[aR];rw[hm3];rfl⟩,by first | omega | (simp only;omega),st_.to (aC aa) (fun hh=>(by first | exact(hh.pk [2]) | (simp only[hbd2];exact(hh.pk [2]))))⟩
     ·have hne:sI.load (SI.scan+1+i)=0:=by simpa using h78
      refine aq (ab (kPv (aL aa aa) aa (kPm aa aa (ad ?_))))
      exact fun a w st_=>⟨(i+1,SI,sI),⟨by first | omega | (simp only;omega),hSI,huI,htdI,hdI,hbdI,hscI0,by rw[hinv,show(unp (s.load S.scan)).2.1.toNat - i=((unp (s.load S.scan)).2.1.toNat - (i+1))+1 by omega,ij,if_pos hne];rfl⟩,by first | omega | (simp only;omega),st_.to (aC aa) (fun hh=>(by first | exact(hh.pk [1]) | (simp only[hbd2];exact(hh.pk [1]))))⟩
    ·have hi:¬ (i:Int)<(unp (s.load S.scan)).2.1:=by simpa using h63
     have hscI:=hSI.scan
     refine bC (aS [1] (jN fun rsv3 tsv3 mw3 hrsv3 htsv3=>(cY 9 Tryz.mixed (by kernel_rfl) (by kernel_rfl) ?_)))
     refine kQm aa aa (kQv (aK aa) aa (kQv (aE (m:=_) jg aa aa) aa (kQv (ai isAgg3 aa aa) aa (kQv (ah isAgg102 sizeOf102 aa aa) aa ?_))))
     refine bG aa (ar call139 aa) (eH _ _ _ _ (by omega)) .free aa ?_
     refine kQv (aL aa aa) aa (kQv (aK aa) aa (kQv (aE (m:=_) jg aa aa) aa (cg (kPs (aO sizeOf3 aa aa aa aa) aa (ad (an [2,0] rfl (ac (ab (kPf iu isAgg4 aa aa aa aa (kPa aa aa (ad ?_)))))))))))
     refine az ?_
     exact au results166 aa (fun w hh=>⟨_,⟨_,_,by rw[hstep,hinv,show(unp (s.load S.scan)).2.1.toNat - i=0 by omega];rfl,by rw[hdI,hdone],rfl⟩,by rw[←hbdI];exact cD (S:={SI with scan:=SI.scan+((unp (s.load S.scan)).1+1)}) hrsv3 htsv3 (hh.dp [4])⟩)
   ·have hlt:¬ S.scan<S.free:=by simpa using h37
    refine aN (fun w hh=>cD hrsv htsv hh) (ab (kPm aa aa ?_))
    refine aU aa (ar call203 aa) (Ay B _ x S hS s hu) .free aa aa ?_ ?_
    rotate_left
    ·rintro _ _ ⟨s9,hm9,rfl,rfl⟩
     exact bi fun w hh=>⟨_,⟨s9,by unfold bF.step;rw[if_neg (by rw[hdone];decide)];simp only[htd];rw[if_neg hlt,hm9];rfl,rfl,rfl⟩,hh⟩
    rintro _ _ ⟨r1,s1,hm1,rfl,rfl⟩
    refine jN fun rsv4 tsv4 mw4 hrsv4 htsv4=>(ad (ac (ab (kPf iu isAgg4 aa aa aa aa (kPa aa aa (ad (an [2] rfl (az ?_))))))))
    exact au results166 aa (fun w hh=>⟨_,⟨(true,{S with done:=true}),s1,by unfold bF.step;rw[if_neg (by rw[hdone];decide)];simp only[htd];rw[if_neg hlt,hm1];rfl,rfl,rfl⟩,cD (S:={S with done:=true}) hrsv4 htsv4 hh⟩)
theorem oH:∀ (f:Nat) (S S':bF) (s s':Dev),fj S→U64 s→uR f S s= .ok S' s'→fj S'∧U64 s'∧S'.b=S.b∧S'.bd=S.bd∧S'.c=S.c∧S'.to_=S.to_
 | 0,S,S',s,s',h,hu,e=>by cases e;exact⟨h,hu,rfl,rfl,rfl,rfl⟩
 | f+1,S,S',s,s',h,hu,e=>by
   rw[i6] at e
   obtain⟨r,s1,e1,e⟩:=aJ e
   obtain⟨h1,u1,g1,g2,g3,g4,_⟩:=rh h hu e1
   split at e
   ·cases e;exact⟨h1,u1,g1,g2,g3,g4⟩
   ·obtain⟨k1,k2,k3,k4,k5,k6⟩:=oH f _ _ _ _ h1 u1 e
    exact⟨k1,k2,k3.trans g1,k4.trans g2,k5.trans g3,k6.trans g4⟩
theorem p5{α β:Type}{f:α→β}{l:List α}{k:Nat}(hk:k<l.length):(l.take (k+1)).map f=(l.take k).map f++[f l[k]]:=by
 rw[List.take_succ_eq_append_getElem hk,List.map_append];rfl
theorem l3{bd:Nat}{c:Cfg}{b:Blk}{ws:List Int}(hc:bA c)(hb:gi c b)(hl:b.rts.length≤16)(hr:∀ v∈b.rts,0≤v∧v<18446744073709551616)(hw:∀ v∈ws,0≤v∧v<18446744073709551616):fj (et bd c b ws):=by
 have h1:=hb.act
 have h2:=iI hc (k:=1 - b.act) (by omega)
 have h3:=hc.s1
 have h4:0≤c.frm (1 - b.act)∧c.frm (1 - b.act)≤20000:=by omega
 exact⟨hc,hb,hl,h4,⟨Int.le_refl _,by unfold et;simp only;omega⟩,⟨Int.le_refl _,by simp[et]⟩,List.nodup_nil,fun _ h=>(by cases h),fun _ h=>(by cases h),hw,hr⟩
theorem w8(B:World)(Fr:List HP)(x:Nat)(S:bF)(hS:fj S)(s:Dev)(hu:U64 s):
 ∀ w,Holds B (eU x S::aB S.bd s::Fr) w→Calls Tryz.prog 135 [ptr x].toArray w (Ret B (fun rv H'=>∃ r s',S.run s= .ok r s'∧rv= .tuple #[]∧H'=eU x r::aB S.bd s'::Fr) (fun c H'=>∃ s',S.run s= .off s'∧c=dR∧H'=aB S.bd s'::Fr)):=by
 refine ao func135 aa ntmps135 aa (aF (cA (ι:=Nat×bF×Dev) [0] (fun (n,SI,sI)=>(SI.meas<n)∧(fj SI)∧(U64 sI)∧(SI.bd=S.bd)∧(uR (S.meas+1) S s=uR n SI sI)) (fun (n,SI,sI)=>[]) (fun (n,SI,sI)=>eU x SI::aB SI.bd sI::Fr) (fun (n,SI,sI)=>n) (S.meas+1,S,s) (⟨Nat.lt_succ_self _,hS,hu,rfl,rfl⟩) (fun a w st=>st.to trivial (fun hh=>hh)) ?_))
 rintro⟨n,SI,sI⟩ ⟨hn,hSI,huI,hbdI,hinv⟩
 try simp only at hn hSI huI hbdI hinv ⊢
 refine bY (σ':=[(0,_)]) ⟨rfl,trivial⟩ (ac (ac (ab (kPm aa aa ?_))))
 refine aU aa (ar call166 aa) (pK B _ x SI hSI sI huI) .free aa aa ?_ ?_
 rotate_left
 ·rintro _ _ ⟨s9,hm9,rfl,rfl⟩
  exact bi fun w hh=>⟨_,⟨s9,by unfold bF.run;rw[hinv,show n=n - 1+1 by omega,i6,hm9];rfl,rfl,rfl⟩,by rw[←hbdI];exact hh⟩
 rintro _ _ ⟨r1,s1,hm1,rfl,rfl⟩
 obtain⟨hS1,hu1,hb1,hbd1,hc1,hto1,hr1,hms1⟩:=rh hSI huI hm1
 refine kPv (bx aa) aa (ad ?_)
 refine aZ aa (fun h4=> ?_) (fun h4=> ?_)
 ·have hg:r1.1=false:=by simpa using h4
  refine aq (aF (aq ?_))
  exact fun a w st_=>⟨(n - 1,r1.2,s1),⟨by have:=hms1 hg;first | omega | (simp only;omega),hS1,hu1,hbd1.trans hbdI,by rw[hinv,show n=n - 1+1 by omega,i6,hm1];simp only[aR];rw[if_neg (by rw[hg];decide)];rfl⟩,by first | omega | (simp only;omega),st_.to ⟨rfl,trivial⟩ (fun hh=>(by simp only[hbd1];exact hh))⟩
 ·have hg:r1.1=true:=by simpa using h4
  refine bC ?_
  exact cS results135 (fun w hh=>⟨_,⟨_,_,by unfold bF.run;rw[hinv,show n=n - 1+1 by omega,i6,hm1];simp only[aR];rw[if_pos hg],rfl,rfl⟩,by rw[←hbdI];exact hh⟩)
theorem mW(B:World)(Fr:List HP)(x:Nat)(S:bF)(hS:fj S):
 ∀ w,Holds B (eU x S::Fr) w→Calls Tryz.prog 167 [ptr x].toArray w (Ret B (fun rv H'=>∃ sv,aM sv=true∧rv=lI S.block sv∧H'=cP 0 (sv,S.block.rts)::eU x S::Fr) (fun _ _=>False)):=by
 refine ao func167 aa ntmps167 aa ?_
 have hfb:=hS.fb
 have hfr:=hS.free
 have hto:=hS.to_
 have hba:=hS.b.act
 have hrl:=hS.rl
 refine ac (ab (kPb (aD zeroValue151 aa) aa fun b2=>(ad (ac (aS [1] (jN fun rsv tsv mw hrsv htsv=> ?_))))))
 refine iH (.fin [0,1,2,3,4,5,6,7,8,9,10,11,12,13,14,15,16,17]) [16,17] [0,1,2,3,4,5,6,7,8,9,10,11,12,13,14,15] [16] [row x (eT S rsv tsv mw) 247] [2,0] (G:=Nat) (fun b3=>[(3,ptr b3)]) (fun b3=>row b3 [i64 (1 - S.b.act),i64 (S.free - S.to_),.slice none 0 0] 151::row x (eT S rsv tsv mw) 247::cP 0 (rsv,S.b.rts)::cP 0 (tsv,S.todo)::bz .u64 i64 mw S.went::row b2 [i64 0,i64 0,.slice none 0 0] 151::Fr) Tryz.mixed (by kernel_rfl) ?_ ?_
 ·skip
  refine gZ (ak aa aa aa (aj aa) .free aa (ak aa aa aa (aK aa) .free aa (ak aa aa aa (aE (m:=_) mj aa aa) .free aa (ak aa aa aa (aE (m:=_) ix aa aa) .free aa (ak aa aa aa (ai isAgg3 aa aa) .free aa (ak aa aa aa (fk aa aa) .free aa (ak aa aa aa (aj aa) .free aa (ak aa aa aa (aK aa) .free aa (ak aa aa aa (aE (m:=_) iv aa aa) .free aa (ak aa aa aa (ai isAgg3 aa aa) .free aa (ak aa aa aa (aj aa) .free aa ?_)))))))))))
  refine ak aa aa aa (aK aa) .free aa (ak aa aa aa (aE (m:=_) pG aa aa) .free aa (ak aa aa aa (ai isAgg3 aa aa) .free aa (ak aa aa aa (fk aa aa) .free aa (ak aa aa aa (aP aa (nB _ _ aa aa)) .free aa (aT aa aa (kPb (aD zeroValue151 aa) aa fun b3=>(ad (cN (aT aa aa ?_)))))))))
  refine kPs (ax (vs:=_) sizeOf151 aa aa aa (by first | rfl | exact dW (by assumption)) rfl) rfl ?_;refine ad ?_;refine c7 aa ?_;refine cx ?_
  exact fun a w st_=>⟨b3,st_.to (aC aa) (fun hh=>hh)⟩
 intro b3
 refine bY (σ':=[(3,ptr b3),(2,_),(0,_)]) (aC aa) (ac (ac (aS [2] (cE fun qr cr hqr hqi=> ?_))))
 subst hqr
 refine aS [1,1,0,0,0,0] (aN (fun w hh=>ew (T:=25) (enc:=w64) hh) (ab (kPm aa aa (kPv (aK aa) aa (kPv (aE (m:=_) mj aa aa) aa (kPl fa isAgg30 aa aa aa aa (kPv (bB aa runUnderlying30 ⟨_,rfl⟩ rfl) aa (kPm aa aa (ad (aF (cA (ι:=Nat×Value) [27,26,3,2,0] (fun (k,bv)=>(k≤S.b.rts.length)∧(aM bv=true)) (fun (k,bv)=>[(28,i64 k)]) (fun (k,bv)=>cP 0 (bv,(S.b.rts.take k).map (fun w=>(bP S.went w).getD 0))::row b3 [i64 (1 - S.b.act),i64 (S.free - S.to_),bv] 151::row x (eT S (.slice qr S.b.rts.length cr) tsv mw) 247::cP 0 (.slice qr S.b.rts.length cr,S.b.rts)::cP 0 (tsv,S.todo)::bz .u64 i64 mw S.went::row b2 [i64 0,i64 0,.slice none 0 0] 151::Fr) (fun (k,bv)=>S.b.rts.length - k) (0,.slice none 0 0) (⟨Nat.zero_le _,rfl⟩) (fun a w st=>st.to ⟨rfl,trivial⟩ (fun hh=>hh)) ?_)))))))))))
 rintro⟨k,bv⟩ ⟨hk0,hbv⟩
 try simp only at hk0 hbv ⊢
 refine bY (σ':=[(28,i64 k),(27,_),(26,_),(3,_),(2,_),(0,_)]) (aC aa) (ac (ab (kPv (am aa aa aa) aa (ad (ac ?_)))))
 refine aZ aa (fun h29=> ?_) (fun h29=> ?_)
 ·have hk:k<S.b.rts.length:=by simp at h29;omega
  obtain⟨bq,oq,rfl⟩:=hqi k hk
  have hvb:=hS.vb S.b.rts[k]
  refine aq (ac (aF (ac (ab (kPv (bT runUnderlying30 sizeOf25 aa aa (by omega) (by omega)) aa ?_)))))
  refine kPv (bH (v:=w64 S.b.rts[k]) isAgg25 (cQ 3 aa) aa (by rw[Int.toNat_natCast,List.getElem?_map,List.getElem?_eq_getElem hk];rfl)) aa ?_
  refine kPa aa aa (ad (cR [0,1,2,3,4,5,6,7,8,9,10,11,12] [9,10,12] [0,1] [9] [row b3 [i64 (1 - S.b.act),i64 (S.free - S.to_),bv] 151,row x (eT S (.slice (some ⟨bq,oq,none⟩) S.b.rts.length cr) tsv mw) 247,bz .u64 i64 mw S.went] Tryz.mixed (by kernel_rfl) ?_))
  refine ak aa aa aa (aE (m:=_) fa aa aa) .free aa (ak aa aa aa (ai isAgg30 aa aa) .free aa (aQ aa aa aa (aj aa) .free aa (aQ aa aa aa (aK aa) .free aa (aQ aa aa aa (aE (m:=_) mh aa aa) .free aa (aQ aa aa aa (ai isAgg245 aa aa) .free aa (aQ aa aa aa (aj aa) .free aa (aQ aa aa aa ((lD runUnderlying245 runUnderlying25 zeroValue3 aa aa).eq (o7 _)) .free aa (aQ aa aa aa (cZ runUnderlying3 runUnderlying25 aa (dX (by omega))) .free aa (aT aa aa (kPb (fB runUnderlying30 sizeOf25 zeroValue25 aa aa aa) aa fun b41=>(aS [1,0] ?_)))))))))))
  refine ad (cN (aT aa aa (cI aa (dD aa aa runUnderlying30 runUnderlying30 ⟨_,rfl⟩ sizeOf25 zeroValue25 aa (fun _=>rfl) gY aa aa (by simp;omega)) .free aa aa ?_)))
  rintro bv2 _ ⟨hbv2,rfl⟩
  refine ad (c7 aa (aQ aa aa aa (aE (m:=_) fa aa aa) .free aa (aT aa aa ?_)))
  refine kPs (aO sizeOf30 aa aa (by first | rfl | assumption) rfl) rfl ?_;refine ad ?_;refine c7 aa ?_;refine cx ?_;refine an [28,27,26,3,2,0] rfl ?_;refine ab ?_;refine kPv (aL aa aa) aa ?_;refine kPm aa aa ?_;refine ad ?_
  exact fun a w st_=>⟨(k+1,bv2),⟨by first | omega | (simp only;omega),hbv2⟩,by first | omega | (simp only;omega),st_.to (aC aa) (fun hh=>(by simp only[p5 hk];exact hh))⟩
 ·have hk:¬ k<S.b.rts.length:=by simp at h29;omega
  obtain rfl:k=S.b.rts.length:=by omega
  rw[List.take_length]
  refine bC (ac (ab (kPv (ah isAgg151 sizeOf151 aa aa) aa ?_)))
  refine kPs (ax (vs:=_) sizeOf151 aa aa aa (by first | rfl | exact dW (by assumption)) rfl) rfl ?_;refine ad ?_;refine an [2] rfl ?_;refine az ?_
  exact qp results167 (.cellA aa isAgg151 sizeOf151 aa aa) (fun w hh=>⟨_,⟨bv,hbv,rfl,rfl⟩,(cD (S:=S) hrsv htsv ((hh.dp [1,5]).pk [1,1,1,1])).pk [1]⟩)
theorem uo(B:World)(Fr:List HP)(cap:Nat):
 ∀ w,Holds B Fr w→Calls Tryz.prog 178 [.slice none 0 cap].toArray w (a8 B Fr (.slice none 0 0)):=by
 refine ao func178 aa ntmps178 aa (ac (ab (kPa aa aa (ad (ac (ac (ab (kPm aa aa (kPv (wY runUnderlying30 aa aa aa) aa (ad (tS aa (rfl) ?_)))))))))))
 refine ac (ab (kPa aa aa (ad (az ?_))))
 exact au results178 aa (fun w hh=>⟨rfl,hh⟩)
theorem nz(B:World)(Fr:List HP)(q:Option Addr)(cap:Nat)(xs:List Int)(hn:xs.length≤1000000)(hq:q=none→xs=[])(hr:SlR B Fr (.slice q xs.length cap) (xs.map w64)):∀ w,Holds B Fr w→Calls Tryz.prog 178 [.slice q xs.length cap].toArray w (Ret B (fun rv H'=>aM rv=true∧H'=cP 0 (rv,xs)::Fr) (fun _ _=>False)):=by
 intro w hw
 cases q with
 | none=>
   have:=hq rfl
   subst this
   exact(uo B Fr cap w hw).mono fun e w' h=>by obtain⟨rfl,h⟩:=h;exact⟨_,⟨rfl,rfl⟩,ew h⟩
 | some a=>
   refine(lG B Fr (some a) xs.length cap (xs.map w64) (by simp) (by simpa using hn) (by rw[List.all_eq_true];intro v hv;obtain⟨x,_,rfl⟩:=List.mem_map.1 hv;rfl) hr w hw).mono fun e w' h=> ?_
   cases e with
   | returned v=>
     obtain⟨H',⟨bn,rest,rfl,rfl⟩,h⟩:=h
     exact⟨_,⟨rfl,rfl⟩,ia aa aa h⟩
   | panicked c=>obtain⟨_,h,_⟩:=h;exact h.elim
   | outgrown=>exact h.elim
theorem r7(B:World)(Fr:List HP)(bd:Nat)(c:Cfg)(hc:bA c)(b:Blk)(hb:gi c b)(sv:Value)(hsv:aM sv=true)(q:Option Addr)(cap:Nat)(ws:List Int)(hwn:ws.length≤1000000)(hwq:q=none→ws=[])(hwl:SlR B (cP 0 (sv,b.rts)::Fr) (.slice q ws.length cap) (ws.map w64)):
 ∀ w,Holds B (cP 0 (sv,b.rts)::Fr) w→Calls Tryz.prog 133 [ptr bd,dV c,lI b sv,.slice q ws.length cap].toArray w (Ret B (fun rv H'=>∃ x,rv=ptr x∧H'=eU x (et bd c b ws)::Fr) (fun _ _=>False)):=by
 refine ao func133 aa ntmps133 aa ?_
 have hba:=hb.act
 refine ac (ab (kPb (aY aa) aa fun b5=>(kPb (aY aa) aa fun b6=>(kPa aa aa (ad (ac (ab (kPv (ah isAgg134 sizeOf134 aa aa) aa ?_))))))))
 refine kPl ix isAgg3 aa aa aa aa (kPv (fk aa aa) aa (ay aa (ar call119 aa) (jO _ _ c hc _ (by have:=hb.act;omega) (by have:=hb.act;omega)) .free aa aa ?_))
 refine kPa aa aa (ad (an [9,8,6,5,0,3] rfl (ac (aS [1] ?_))))
 refine iH (.br [0,1,2,3,4,5,6] 7 (.fin [8,9,10,11]) 8 (.fin [7,9,10,11])) [7,8,10] [0,1,2,3,4,5,6] [7,8] [row b5 [i64 c.log,i64 c.roots,i64 c.space] 134,row b6 [i64 b.act,i64 b.used,sv] 151] [] (G:=Nat) (fun x=>[(8,ptr x)]) (fun x=>eU x (et bd c b ws)::Fr) Tryz.mixed (by kernel_rfl) ?_ ?_
 ·skip
  refine sG (ak aa aa aa (aj aa) .free aa (ak aa aa aa (ah isAgg134 sizeOf134 aa aa) .free aa ?_))
  refine ak aa aa aa (ah isAgg151 sizeOf151 aa aa) .free aa ?_
  refine ak aa aa aa (aj aa) .free aa (ak aa aa aa (aj aa) .free aa (ak aa aa aa (aj aa) .free aa (ak aa aa aa (aj aa) .free aa (cx ?_))))
  refine ng aa aa ?_ ?_
  ·skip
   refine aI aa (ar call178 aa) (nz _ _ q cap ws hwn hwq hwl.up) .free aa aa ?_
   rintro tsv _ ⟨htsv,rfl⟩
   refine ad (rb (gZ (aT aa aa (kPb (dU .u64 i64) aa fun mw=>(ad (cN ?_))))))
   refine aQ aa aa aa (aP aa (fN _ _ _ _ _ _ _ _ _ _ _ _ (by first | rfl | assumption) rfl rfl rfl (by first | rfl | assumption) (by first | rfl | assumption))) .free rfl ?_;refine aT aa aa ?_;refine kPb (aY aa) aa fun b25=> ?_;refine ad ?_;refine c7 aa ?_
   refine aQ aa aa aa (bu aa) .free aa (cx ?_)
   exact fun a w st_=>⟨b25,st_.to ⟨rfl,trivial⟩ (fun hh=>(cD (S:=et bd c b ws) hsv htsv ((hh.dp [3,3]).pk [0,2,1])))⟩
  ·skip
   refine kPb (dU .u64 i64) aa fun mw=>(ad (rb (gZ (aT aa aa (aI aa (ar call178 aa) (nz _ _ q cap ws hwn hwq hwl.up) .free aa aa ?_)))))
   rintro tsv _ ⟨htsv,rfl⟩
   refine ad (cN ?_)
   refine aQ aa aa aa (aP aa (fN _ _ _ _ _ _ _ _ _ _ _ _ (by first | rfl | assumption) rfl rfl rfl (by first | rfl | assumption) (by first | rfl | assumption))) .free rfl ?_;refine aT aa aa ?_;refine kPb (aY aa) aa fun b25=> ?_;refine ad ?_;refine c7 aa ?_;refine aQ aa aa aa (bu aa) .free aa ?_;refine cx ?_
   exact fun a w st_=>⟨b25,st_.to ⟨rfl,trivial⟩ (fun hh=>(cD (S:=et bd c b ws) hsv htsv ((hh.dp [3,3]).pk [0,2])))⟩
 intro x
 refine bY (σ':=[(8,ptr x)]) ⟨rfl,trivial⟩ (az ?_)
 exact au results133 aa (fun w hh=>⟨_,⟨_,rfl,rfl⟩,hh⟩)
def vo:List Value:=zL.flatMap fun p=>[str p.1,i64 p.2]
theorem mQ:∀ k,k<18→(vo.drop (k*2)).take 2=[str (fw k),i64 (fm k)]:=by
 intro k hk
 obtain rfl | rfl | rfl | rfl | rfl | rfl | rfl | rfl | rfl | rfl | rfl | rfl | rfl | rfl | rfl | rfl | rfl | rfl:k=0∨k=1∨k=2∨k=3∨k=4∨k=5∨k=6∨k=7∨k=8∨k=9∨k=10∨k=11∨k=12∨k=13∨k=14∨k=15∨k=16∨k=17:=by omega
 all_goals rfl
def FG(B:World):Prop:=lM B (some ⟨1,0,none⟩) 1 36 (fun _=>vo)
section
variable {B:World} {σ:Env} {H:List HP} {P:Program} {d:Option Tmp} {ty:TypeId} {p:String} {af:Array Edge} {g:Option (Nat×Bool)}
theorem BK{t e m len:Nat}{x y:Operand}{k:IntKind}{i:Int}{cs c:List Value}(ht:∀ w,(underlying t).run P w= .ok (.array len e) w)(ha:∀ w,(isAgg e).run P w= .ok true w)(hs:∀ w,(sizeOf e).run P w= .ok m w)(hx:evO σ x=some (.agg cs.toArray))(hy:evO σ y=some (.int k i))(h0:0≤i∧i<len)(hc:(cs.drop (i.toNat*m)).take m=c):
 Evs P B σ H ⟨d,.index t x y,ty,p,af,g⟩ (.agg c.toArray):=by
 subst hc
 intro a w kn _
 simp only[execOp,kn.eval hx,kn.eval hy]
 simp[Instr.index,asIntOf,ht,h0.1,h0.2,part,ha,hs,List.extract_eq_take_drop]
theorem Af{t b m:Nat}{x:Operand}{cs:List Value}(ht:∀ w,(isAgg t).run P w= .ok true w)(hs:∀ w,(sizeOf t).run P w= .ok m w)[cM H B](hr:lM B (some ⟨b,0,none⟩) 1 m (fun _=>cs))(hx:evO σ x=some (.pointer (some ⟨b,0,none⟩))):
 Evs P B σ H ⟨d,.load t x,ty,p,af,g⟩ (.agg cs.toArray):=
 gS (i:=0) (k:=1) (cap:=1) ht hs (SlN.arg hr) (by rw[hx,Nat.zero_mul]) rfl
def isE:Value→Bool
 | .nilIface=>false
 | _=>true
theorem wW{x:Operand}{t u:TypeId}{ms:Array (String×TypeId)}{v:Value}(ht:∀ w,(underlying t).run P w= .ok (.interface ms) w)(hx:evO σ x=some v)(hv:v= .nilIface∨∃ u x,v= .iface u x):
 Evs P B σ H ⟨d,.binOp .neq t x (.const .nilIface) u,ty,p,af,g⟩ (.bool (isE v)):=(mq ht hx hv).eq (by rcases hv with rfl | ⟨_,_,rfl⟩<;>rfl)
theorem Ab{t e b off n cap:Nat}{x lo:Operand}{kk:IntKind}(ht:∀ w,(underlying t).run P w= .ok (.slice e) w)(hs:∀ w,(sizeOf e).run P w= .ok 1 w)(hx:evO σ x=some (.slice (some ⟨b,off,none⟩) n cap))(hl:evO σ lo=some (.int kk 1))(h1:1≤n)(h2:n≤cap):
 Evs P B σ H ⟨d,.slice t x (some lo) none none,ty,p,af,g⟩ (.slice (some ⟨b,if cap=1 then off else off+1,none⟩) (n - 1) (cap - 1)):=by
 by_cases hc:cap=1
 ·subst hc
  obtain rfl:n=1:=by omega
  rw[if_pos rfl]
  exact jQ ht hs hx hl
 ·rw[if_neg hc]
  exact kD ht hs hx (.yesi hl aa) .no h1 h2 (.inl (by omega)) (by rw[Nat.one_mul])
theorem j9{q:Option Addr}{T cap:Nat}{l:List (List UInt8)}(i:Nat)(e:H[i]? =some (go T (.slice q l.length cap) l)):SlR B H (.slice q l.length cap) (l.map str):=by
 have h:=yD (B:=B) uI i e
 rw[mc] at h
 refine⟨q,cap,by simp,fun w hw j hj=> ?_⟩
 rcases eI (hw.front i e) with ⟨h1,_,_⟩ | ⟨bd,pre,rest,k,_,h1,h2⟩
 ·rw[h1] at hj;exact absurd hj (Nat.not_lt_zero _)
 ·injection h1 with h1 _ _
  refine⟨bd,pre.length,h1,?_⟩
  have h3:=h2.cell 0 rfl (pre.length+j)
  rw[h3,mc,List.append_assoc,List.getElem?_append_right (by omega),Nat.add_sub_cancel_left,List.getElem?_append_left hj]
theorem nQ{n:Nat}{D:List Deferred}{K:Act→World→Prop}{T:Nat}{sv:Value}{l:List (List UInt8)}(h:∀ q cap,sv= .slice q l.length cap→l.length≤cap→(0<l.length→∃ b off,q=some ⟨b,off,none⟩)→GO B n D σ (go T sv l::H) K):GO B n D σ (go T sv l::H) K:=fun a w st=>by
 rcases eI st.holds with ⟨e1,e2,_⟩ | ⟨bd,pre,rest,k,_,e,_⟩
 ·exact h none 0 (by rw[e2,e1];rfl) (by rw[e1];exact Nat.le_refl _) (fun hi=>by rw[e1] at hi;exact absurd hi (Nat.not_lt_zero _)) a w st
 ·exact h _ _ e (by omega) (fun hi=>⟨_,_,rfl⟩) a w st
end
theorem o5(s:List UInt8)(t:List (List UInt8)):fG (s::t)=match num s with
 | none=>none
 | some n=>(fG t).map fun l=>(n:Int)::l:=rfl
theorem mH{ns:List Int}{s:List UInt8}{t:List (List UInt8)}(h:num s=none):(fG (s::t)).map (ns++ ·)=none:=by rw[o5,h];rfl
theorem tq{ns:List Int}{s:List UInt8}{t:List (List UInt8)}{u:Nat}(h:num s=some u):(fG (s::t)).map (ns++ ·)=(fG t).map ((ns++[(u:Int)])++ ·):=by
 rw[o5,h]
 simp only[Option.map_map]
 congr 1
 funext l
 simp
theorem qC{ws:List (List UInt8)}(h:gB (ws.getD 0 [])=none):cJ ws=((0,[]),12):=by unfold cJ;rw[h]
theorem qD{ws:List (List UInt8)}{k:Nat}(h:gB (ws.getD 0 [])=some (k,fm k))(hl:ws.length≠fm k+1):cJ ws=((0,[]),13):=by unfold cJ;rw[h];simp only[if_pos hl]
theorem ph{ws:List (List UInt8)}{k:Nat}(h:gB (ws.getD 0 [])=some (k,fm k))(hl:ws.length=fm k+1)(hn:fG (ws.drop 1)=none):cJ ws=((0,[]),13):=by
 unfold cJ;rw[h];simp only[ne_eq,not_true,if_false,hl,hn]
theorem rD{ws:List (List UInt8)}{k:Nat}{ns:List Int}(h:gB (ws.getD 0 [])=some (k,fm k))(hl:ws.length=fm k+1)(hn:fG (ws.drop 1)=some ns):cJ ws=((((k:Nat):Int),ns),0):=by
 unfold cJ;rw[h];simp only[ne_eq,not_true,if_false,hl,hn]
theorem iX{ws:List (List UInt8)}{i:Nat}(h:i<ws.length):(ws.map str)[i]? =some (str (ws.getD i [])):=by
 simp[h,List.getD]
theorem jl{ws:List (List UInt8)}{i:Nat}(h:i<ws.length):ws.drop i=ws.getD i []::ws.drop (i+1):=by
 rw[List.drop_eq_getElem_cons h];simp[h,List.getD]
theorem zr(B:World)(Fr:List HP)[cM Fr B](gl:GL B)(fg:FG B)(ws:List (List UInt8))(h0:0<ws.length)(hwn:ws.length≤1000000)(hwl:∀ i,(ws.getD i []).length≤1000000)(b off cap:Nat)(hcap:ws.length≤cap)(hr:SlR B Fr (.slice (some ⟨b,off,none⟩) ws.length cap) (ws.map str)):
 ∀ w,Holds B Fr w→Calls Tryz.prog 28 [.slice (some ⟨b,off,none⟩) ws.length cap].toArray w (Ret B (fun v H'=>∃ sv,aM sv=true∧v= .tuple #[.agg #[i64 (cJ ws).1.1,sv],i64 (cJ ws).2]∧H'=cP 0 (sv,(cJ ws).1.2)::Fr) (fun _ _=>False)):=by
 refine ao func28 aa ntmps28 aa (ac (ab (kPb (aD zeroValue32 aa) aa fun b2=>(kPa aa aa (ad (ac (ac (ab (kPv (Af isAgg62 sizeOf62 fg aa) aa (kPm aa aa (ad ?_)))))))))))
 refine aF (cA (ι:=Nat) [11,3,2,0] (fun k=>(k≤18)∧(gB (ws.getD 0 [])=fY (ws.getD 0 []) (18 - k) k)) (fun k=>[(12,i64 k)]) (fun k=>row b2 [i64 0,.slice none 0 0] 32::Fr) (fun k=>18 - k) (0) (⟨Nat.zero_le _,rfl⟩) (fun a w st=>st.to ⟨rfl,trivial⟩ (fun hh=>hh)) ?_)
 rintro k ⟨hk0,hko⟩
 try simp only at hk0 hko ⊢
 refine bY (σ':=[(12,i64 k),(11,_),(3,_),(2,_),(0,_)]) (aC aa) (ac (ab (kPv (am aa aa aa) aa (ad (ac ?_)))))
 refine aZ aa (fun h13=> ?_) (fun h13=> ?_)
 ·have hk:k<18:=by simp at h13;omega
  have hfm:=tW k hk
  refine aq (ac (aF (ac (ab (kPm aa aa (kPv (BK (c:=[str (fw k),i64 (fm k)]) runUnderlying62 isAgg61 sizeOf61 aa aa (by omega) (by rw[Int.toNat_natCast];exact mQ k hk)) aa (kPb (aD zeroValue61 aa) aa fun b5=>(kPa aa aa ?_))))))))
  refine kPs (ax (vs:=_) sizeOf61 aa aa aa (by first | rfl | exact dW (by assumption)) rfl) rfl ?_;refine ad ?_;refine ac ?_;refine ac ?_;refine cK Tryz.mixed (by kernel_rfl) (by kernel_rfl) ?_;refine kQm aa aa ?_;refine kQv (bT runUnderlying50 sizeOf9 aa aa (by omega) (by omega)) aa ?_
  refine kQv (bH (v:=str (ws.getD 0 [])) isAgg9 hr.up aa (iX h0)) aa (kQv (aE (m:=_) wT aa aa) aa (kQv (ai isAgg9 aa aa) aa (kQv (mT aa aa aa) aa (cg (an [21,4,5,12,11,3,2,0] rfl ?_)))))
  refine aZ aa (fun h21=> ?_) (fun h21=> ?_)
  ·have hne:¬ fw k=ws.getD 0 []:=fun e=>by simp[e] at h21
   refine bC (ab (kPv (aL aa aa) aa (kPm aa aa (ad ?_))))
   exact fun a w st_=>⟨k+1,⟨by first | omega | (simp only;omega),by rw[hko,show 18 - k=18 - (k+1)+1 by omega,fY,if_neg hne]⟩,by first | omega | (simp only;omega),st_.to (aC aa) (fun hh=>(hh.dp [0]))⟩
  ·have heq:fw k=ws.getD 0 []:=by
    have h9:ws.getD 0 []=fw k:=by simpa using h21
    exact h9.symm
   have hkind:gB (ws.getD 0 [])=some (k,fm k):=by rw[hko,show 18 - k=17 - k+1 by omega,fY,if_pos heq]
   refine aq (ac (ac (ab (kPm aa aa (kPv (bB aa runUnderlying50 ⟨_,rfl⟩ rfl) aa (kPl BG isAgg3 aa aa aa aa (kPv (aL aa aa) aa (kPv (am aa aa aa) aa (ad (an [27,4,12,11,3,2,0] rfl ?_))))))))))
   refine aZ aa (fun h27=> ?_) (fun h27=> ?_)
   ·have hln:ws.length≠fm k+1:=by simp at h27;omega
    have hres:cJ ws=((0,[]),13):=qD hkind hln
    refine ac (ab (kPv (aP aa (sf)) aa ?_))
    refine kPs (ax (vs:=_) sizeOf32 aa aa aa (by first | rfl | exact dW (by assumption)) rfl) rfl ?_;refine kPa aa aa ?_;refine ad ?_;refine az ?_
    exact gk results28 (.cellA aa isAgg32 sizeOf32 aa aa) (.tmp aa) (fun w hh=>⟨_,⟨.slice none 0 0,rfl,by rw[hres];rfl,rfl⟩,by rw[hres];exact ew ((hh.dp [0,0]))⟩)
   ·have hln:ws.length=fm k+1:=by simp at h27;omega
    refine aq (ac (ab (kPm aa aa (kPv (aP aa (pP _ aa)) aa (kPb (aD zeroValue32 aa) aa fun b6=> ?_)))))
    refine kPs (ax (vs:=_) sizeOf32 aa aa aa (by first | rfl | exact dW (by assumption)) rfl) rfl ?_;refine ad ?_;refine ac ?_;refine ac ?_;refine aN (fun w hh=>ew (T:=25) (enc:=w64) hh) ?_;refine ab ?_;refine kPm aa aa ?_
    refine kPv (Ab runUnderlying50 sizeOf9 aa aa h0 hcap) aa (kPv (bB aa runUnderlying50 ⟨_,rfl⟩ rfl) aa (kPm aa aa (ad (aF (cA (ι:=Nat×List Int×Value) [33,32,6,12,11,3,2,0] (fun (i,ns,nv)=>(i≤ws.length - 1)∧(fG (ws.drop 1)=(fG (ws.drop (i+1))).map (ns++ ·))∧(ns.length=i)∧(aM nv=true)) (fun (i,ns,nv)=>[(34,i64 i)]) (fun (i,ns,nv)=>cP 0 (nv,ns)::row b6 [i64 k,nv] 32::row b5 [str (fw k),i64 (fm k)] 61::row b2 [i64 0,.slice none 0 0] 32::Fr) (fun (i,ns,nv)=>ws.length - i) (0,[],.slice none 0 0) (⟨Nat.zero_le _,by simp,rfl,rfl⟩) (fun a w st=>st.to ⟨rfl,trivial⟩ (fun hh=>hh)) ?_)))))
    rintro⟨i,ns,nv⟩ ⟨hi0,hns,hnl,hnv⟩
    try simp only at hi0 hns hnl hnv ⊢
    refine bY (σ':=[(34,i64 i),(33,_),(32,_),(6,_),(12,_),(11,_),(3,_),(2,_),(0,_)]) (aC aa) (ac (ab (kPv (am aa aa aa) aa (ad (ac ?_)))))
    refine aZ aa (fun h35=> ?_) (fun h35=> ?_)
    ·have hi:i<ws.length - 1:=by simp at h35;omega
     refine aq (ac (aF (ac (ab (kPv ((bT runUnderlying50 sizeOf9 aa aa (by omega) (by omega)).eq (show _=Value.pointer (some ⟨b,off+(i+1),none⟩) by rw[if_neg (by omega),Int.toNat_natCast,Nat.add_assoc,Nat.add_comm 1])) aa (kPv (bH (v:=str (ws.getD (i+1) [])) isAgg9 hr.up aa (iX (by omega))) aa (kPa aa aa (ad (ac (ab (kPm aa aa ?_)))))))))))
     refine aI aa (ar call55 aa) (za gl (ws.getD (i+1) []) (hwl _)) .free aa aa ?_
     rintro _ _ ⟨rfl,n9,e9,rfl,hor⟩
     have hev:e9= .nilIface∨∃ u x,e9= .iface u x:=by
      rcases hor with ⟨u,_,_,h⟩ | ⟨_,t,x,h⟩
      ·exact .inl h
      ·exact .inr ⟨_,_,h⟩
     refine kPm aa aa (kPv (aA aa aa) aa (kPv (aA aa aa) aa (kPa aa aa (kPa aa aa (ad (an [10,9,8,34,33,32,6,12,11,3,2,0] rfl (ac (ac ?_))))))))
     rcases Bool.eq_false_or_eq_true ((isE e9)) with hs12 | hs12
     ·skip
      have hnum:num (ws.getD (i+1) [])=none:=by
       rcases hor with ⟨u,_,_,h⟩ | ⟨h,_⟩
       ·rw[h] at hs12;cases hs12
       ·exact Ba h
      have hres:cJ ws=((0,[]),13):=ph hkind hln (by rw[hns,jl (by omega)];exact mH hnum)
      refine ab (kPm aa aa (kPv (wW runUnderlying76 aa hev) aa (kPm aa aa (ap aa (.on aa aa (ag hs12)) aa (ap aa (.on aa aa (ag hs12)) aa (ap aa (.on aa aa (ag hs12)) aa (ap aa (.on aa aa (ag hs12)) aa (kPv (aw aa hs12 aa) aa (ad (an [50,9,34,33,32,6,12,11,3,2,0] rfl (tS aa (rfl) ?_)))))))))))
      refine ac (ab (kPv (aP aa (sf)) aa ?_))
      refine kPs (ax (vs:=_) sizeOf32 aa aa aa (by first | rfl | exact dW (by assumption)) rfl) rfl ?_;refine kPa aa aa ?_;refine ad ?_;refine az ?_
      exact gk results28 (.cellA aa isAgg32 sizeOf32 aa aa) (.tmp aa) (fun w hh=>⟨_,⟨.slice none 0 0,rfl,by rw[hres];rfl,rfl⟩,by rw[hres];exact ew ((hh.dp [0,0,0,0]))⟩)
     ·skip
      obtain⟨u,hpu,rfl,rfl⟩:∃ u:Nat,Lib.parseUintB 64 (ws.getD (i+1) [])= .ok u∧n9=u∧e9= .nilIface:=by
       rcases hor with h | ⟨_,t,x,h⟩
       ·exact h
       ·rw[h] at hs12;cases hs12
      clear hor
      refine ab (kPm aa aa (kPv (wW runUnderlying76 aa hev) aa (kPm aa aa (al aa (aj aa) (.on aa aa (ae hs12)) aa aa (ay aa (ar call21 aa) (tT _ _ gl u (tg hpu)) (.on aa aa (ae hs12)) aa aa ?_)))))
      refine al aa (aj aa) (.on aa aa (ae hs12)) aa aa (al aa (mT aa aa aa) (.on aa aa (ae hs12)) aa aa (kPv (aH aa hs12 aa) aa (ad (an [50,9,34,33,32,6,12,11,3,2,0] rfl ?_))))
      refine aZ aa (fun h50=> ?_) (fun h50=> ?_)
      ·have hnum:num (ws.getD (i+1) [])=none:=by rw[zh hpu,if_neg (by simpa using h50)]
       have hres:cJ ws=((0,[]),13):=ph hkind hln (by rw[hns,jl (by omega)];exact mH hnum)
       refine ac (ab (kPv (aP aa (sf)) aa ?_))
       refine kPs (ax (vs:=_) sizeOf32 aa aa aa (by first | rfl | exact dW (by assumption)) rfl) rfl ?_;refine kPa aa aa ?_;refine ad ?_;refine az ?_
       exact gk results28 (.cellA aa isAgg32 sizeOf32 aa aa) (.tmp aa) (fun w hh=>⟨_,⟨.slice none 0 0,rfl,by rw[hres];rfl,rfl⟩,by rw[hres];exact ew ((hh.dp [0,0,0,0]))⟩)
      ·have hnum:num (ws.getD (i+1) [])=some u:=by rw[zh hpu,if_pos (by simpa using h50)]
       refine aq (ab (kPl gH isAgg30 aa aa aa aa (kPm aa aa (kPb (fB runUnderlying30 sizeOf25 zeroValue25 aa aa aa) aa fun b55=>(aS [1,0] (cI aa (dD aa aa runUnderlying30 runUnderlying30 ⟨_,rfl⟩ sizeOf25 zeroValue25 aa (fun _=>rfl) gY aa aa (by omega)) .free aa aa ?_))))))
       rintro nv9 _ ⟨hnv9,rfl⟩
       refine kPv (aE (m:=_) gH aa aa) aa ?_
       refine kPs (aO sizeOf30 aa aa (by first | rfl | assumption) rfl) rfl ?_;refine ad ?_;refine an [34,33,32,6,12,11,3,2,0] rfl ?_;refine ab ?_;refine kPv (aL aa aa) aa ?_;refine kPm aa aa ?_;refine ad ?_
       exact fun a w st_=>⟨(i+1,ns++[(u:Int)],nv9),⟨by first | omega | (simp only;omega),by rw[hns,jl (by omega),tq hnum],by simp[hnl],hnv9⟩,by first | omega | (simp only;omega),st_.to (aC aa) (fun hh=>hh)⟩
    ·have hi:i=ws.length - 1:=by simp at h35;omega
     have hres:cJ ws=((((k:Nat):Int),ns),0):=rD hkind hln (by rw[hns,List.drop_eq_nil_of_le (by omega)];simp[fG])
     refine bC (ac (ab (kPv (ah isAgg32 sizeOf32 aa aa) aa ?_)))
     refine kPs (ax (vs:=[i64 k,nv]) sizeOf32 aa aa aa (show([i64 k,nv]:List Value).all aM=true by simp only[List.all_cons,List.all_nil,hnv];rfl) aa) aa (kPa aa aa (ad (az ?_)))
     exact gk results28 (.cellA aa isAgg32 sizeOf32 aa aa) (.tmp aa) (fun w hh=>⟨_,⟨nv,hnv,by rw[hres];rfl,by rw[hres]⟩,(hh.dp [1,1,1])⟩)
 ·have hk:k=18:=by simp at h13;omega
  subst hk
  have hres:cJ ws=((0,[]),12):=qC hko
  refine bC (ac (ab (kPv (aP aa (sf)) aa ?_)))
  refine kPs (ax (vs:=_) sizeOf32 aa aa aa (by first | rfl | exact dW (by assumption)) rfl) rfl ?_;refine kPa aa aa ?_;refine ad ?_;refine az ?_
  exact gk results28 (.cellA aa isAgg32 sizeOf32 aa aa) (.tmp aa) (fun w hh=>⟨_,⟨.slice none 0 0,rfl,by rw[hres];rfl,rfl⟩,by rw[hres];exact ew ((hh.dp [0]))⟩)
structure CmR(B:World)(H:List HP)(q:Option Addr)(cap:Nat)(rs:List CR):Prop where
 sl:SlN B H (.slice q rs.length cap) 2 (rs.map crE)
 nm:∀ t∈rs,SlR B H (slv t.2.1) (t.2.2.map w64)∧t.2.1.2.1=t.2.2.length∧t.2.2.length≤1000000
theorem CmR.up{B:World}{H Fr:List HP}{q:Option Addr}{cap:Nat}{rs:List CR}[gL H Fr](h:CmR B Fr q cap rs):CmR B H q cap rs:=
 ⟨h.sl.up,fun t ht=>⟨(h.nm t ht).1.up,(h.nm t ht).2⟩⟩
theorem vU{B:World}{H:List HP}{q:Option Addr}{n cap:Nat}{cs:List Value}(h:SlR B H (.slice q n cap) cs){w:World}(hw:Holds B H w):∀ i,i<cs.length→∃ b off,q=some ⟨b,off,none⟩:=fun i hi=>by
 obtain⟨q',c',e1,e2⟩:=h.ex
 injection e1 with e3 _ _
 subst e3
 obtain⟨b,off,e,_⟩:=e2 w hw i hi
 exact⟨b,off,e⟩
theorem Df{t u:CR}:((t.1==u.1)&&decide (t.2.2=u.2.2))=decide (crC t=crC u):=by
 rw[Bool.eq_iff_iff]
 simp[crC,Prod.ext_iff]
abbrev crV(t:CR):Value:= .agg #[i64 t.1,slv t.2.1]
theorem DS{B:World}{H Fr:List HP}[gL H Fr]{t u:CR}(hx:SlR B Fr (slv t.2.1) (t.2.2.map w64)∧t.2.1.2.1=t.2.2.length∧t.2.2.length≤1000000)(hy:SlR B Fr (slv u.2.1) (u.2.2.map w64)∧u.2.1.2.1=u.2.2.length∧u.2.2.length≤1000000):
 ∀ w,Holds B H w→Calls Tryz.prog 25 [slv t.2.1,slv u.2.1].toArray w (a8 B H (.bool (decide (t.2.2=u.2.2)))):=fun w hw=>by
 obtain⟨h1,h2,h3⟩:=hx
 obtain⟨g1,g2,g3⟩:=hy
 obtain⟨k1,⟨q1,n1,c1⟩,xs⟩:=t
 obtain⟨k2,⟨q2,n2,c2⟩,ys⟩:=u
 simp only at h2 g2
 subst h2;subst g2
 have h4:SlR B H (.slice q1 xs.length c1) (xs.map w64):=h1.up
 have g4:SlR B H (.slice q2 ys.length c2) (ys.map w64):=g1.up
 exact ub B H q1 q2 c1 c2 xs ys h3 g3 (fun i hi=>vU h4 hw i (by simpa using hi)) (fun i hi=>vU g4 hw i (by simpa using hi)) h4 g4 w hw
theorem yZ(B:World)(Fr:List HP)(t u:CR)(hx:SlR B Fr (slv t.2.1) (t.2.2.map w64)∧t.2.1.2.1=t.2.2.length∧t.2.2.length≤1000000)(hy:SlR B Fr (slv u.2.1) (u.2.2.map w64)∧u.2.1.2.1=u.2.2.length∧u.2.2.length≤1000000):
 ∀ w,Holds B Fr w→Calls Tryz.prog 30 [crV t,crV u].toArray w (a8 B Fr (.bool (decide (crC t=crC u)))):=by
 refine ao func30 aa ntmps30 aa (ac (ab (kPb (aY aa) aa fun b2=>(kPb (aY aa) aa fun b3=>(kPa aa aa (ad (ac (ab (kPl iJ isAgg29 aa aa aa aa (kPl iJ isAgg29 aa aa aa aa (kPv (am aa aa aa) aa ?_)))))))))))
 refine kPm aa aa ?_
 apply dF (tp:=16) (t:=10) (σ1:=[(10,_),(4,_)]) 6 rfl ⟨rfl,rfl,trivial⟩
 ·intro hg1
  refine al aa (aE (m:=_) gH aa aa) (.on aa aa (ae hg1)) aa aa (al aa (ai isAgg30 aa aa) (.on aa aa (ae hg1)) aa aa (al aa (aE (m:=_) gH aa aa) (.on aa aa (ae hg1)) aa aa (al aa (ai isAgg30 aa aa) (.on aa aa (ae hg1)) aa aa (ay aa (ar call25 aa) (DS hx hy) (.on aa aa (ae hg1)) aa aa ?_))))
  refine kPv (aw aa hg1 aa) aa ?_
  exact aV aa ⟨rfl,rfl,trivial⟩ (cV hg1)
 ·intro hg1
  refine ap aa (.on aa aa (ag hg1)) aa (ap aa (.on aa aa (ag hg1)) aa (ap aa (.on aa aa (ag hg1)) aa (ap aa (.on aa aa (ag hg1)) aa (ap aa (.on aa aa (ag hg1)) aa (kPv (aH aa hg1 aa) aa ?_)))))
  exact aV aa ⟨rfl,rfl,trivial⟩ (cW hg1)
 refine kPa aa aa (ad (az ?_))
 exact au results30 aa (fun w hw=>⟨by rw[Df],(hw.dp [0,0])⟩)
theorem Db(B:World)(Fr:List HP)(q1 q2:Option Addr)(c1 c2:Nat)(r1 r2:List CR)(hn1:r1.length≤1000000)(hn2:r2.length≤1000000)(h1:CmR B Fr q1 c1 r1)(h2:CmR B Fr q2 c2 r2):
 ∀ w,Holds B Fr w→Calls Tryz.prog 29 [.slice q1 r1.length c1,.slice q2 r2.length c2,.func (.func 30) #[] #[]].toArray w (a8 B Fr (.bool (decide (r1.map crC=r2.map crC)))):=by
 refine ao func29 aa ntmps29 aa (ac (ab (kPa aa aa (ad (ac (ac (ab (kPm aa aa (kPv (bB aa runUnderlying24 ⟨_,rfl⟩ rfl) aa (kPm aa aa (kPv (bB aa runUnderlying24 ⟨_,rfl⟩ rfl) aa ?_)))))))))))
 refine kPv (am aa aa aa) aa (ad ?_)
 refine aZ aa (fun h14=> ?_) (fun h14=> ?_)
 ·have hne:r1.length≠r2.length:=by intro e;rw[e] at h14;simp at h14
  refine ac (ab (kPa aa aa (ad (az ?_))))
  exact au results29 aa (fun w hw=>⟨by rw[decide_eq_false (fun e=>hne (by have:=congrArg List.length e;simpa using this))],hw⟩)
 ·have hle:r1.length=r2.length:=by simp at h14;omega
  refine aq (ac (ac (ab (kPm aa aa (kPv (bB aa runUnderlying24 ⟨_,rfl⟩ rfl) aa (kPm aa aa (ad (aF (cA (ι:=Nat) [16,15,6,1,2] (fun k=>(k≤r1.length)∧(∀ j,j<k→(r1[j]?).map crC=(r2[j]?).map crC)) (fun k=>[(17,i64 k)]) (fun k=>Fr) (fun k=>r1.length - k) (0) (⟨Nat.zero_le _,fun j h=>absurd h (Nat.not_lt_zero _)⟩) (fun a w st=>st.to ⟨rfl,trivial⟩ (fun hh=>hh)) ?_)))))))))
  rintro k ⟨hk0,hall⟩
  try simp only at hk0 hall ⊢
  refine bY (σ':=[(17,i64 k),(16,_),(15,_),(6,_),(1,_),(2,_)]) (aC aa) (ac (ab (kPv (am aa aa aa) aa (ad (ac ?_)))))
  refine aZ aa (fun h18=> ?_) (fun h18=> ?_)
  ·have hk:k<r1.length:=by simp at h18;omega
   refine vi h1.sl.up (by rw[List.length_map];omega) fun b1 o1 e1=> ?_
   subst e1
   refine vi h2.sl.up (by rw[List.length_map];omega) fun b2 o2 e2=> ?_
   subst e2
   refine aq (ac (aF (ac (ab (kPm aa aa (kPv (j0 (sz:=2) runUnderlying24 sizeOf32 aa aa (by omega) (by omega) aa) aa ?_))))))
   refine kPv (gS (i:=k) (c:=[i64 r1[k].1,slv r1[k].2.1]) isAgg32 sizeOf32 h1.sl.up aa (by rw[List.getElem?_map,List.getElem?_eq_getElem (by omega)];rfl)) aa ?_
   refine kPb (aD zeroValue32 aa) aa fun b8=>(kPa aa aa (kPs (ax (vs:=[i64 r1[k].1,slv r1[k].2.1]) sizeOf32 aa aa aa aa aa) aa (ad (ac (ab (kPm aa aa (kPm aa aa (kPv (j0 (sz:=2) runUnderlying24 sizeOf32 aa aa (by omega) (by omega) aa) aa ?_))))))))
   refine kPv (gS (i:=k) (c:=[i64 (r2[k]'(by omega)).1,slv (r2[k]'(by omega)).2.1]) isAgg32 sizeOf32 h2.sl.up aa (by rw[List.getElem?_map,List.getElem?_eq_getElem (by omega)];rfl)) aa ?_
   refine kPb (aD zeroValue32 aa) aa fun b9=>(kPs (ax (vs:=[i64 (r2[k]'(by omega)).1,slv (r2[k]'(by omega)).2.1]) sizeOf32 aa aa aa aa aa) aa (ad (an [9,8,17,16,15,6,1,2] rfl (ac (ab (kPm aa aa (kPv (ah isAgg32 sizeOf32 aa aa) aa ?_)))))))
   refine kPv (ah isAgg32 sizeOf32 aa aa) aa ?_
   refine ay aa (kF call30 aa aa) (yZ _ _ r1[k] (r2[k]'(by omega)) (h1.up.nm _ (List.getElem_mem hk)) (h2.up.nm _ (List.getElem_mem _))) .free aa aa ?_
   refine kPv (bx aa) aa (ad ?_)
   refine aZ aa (fun h30=> ?_) (fun h30=> ?_)
   ·have hkk:crC r1[k]≠crC (r2[k]'(by omega)):=by simp only[Bool.not_eq_true',decide_eq_false_iff_not] at h30;exact h30
    refine ac (ab (kPa aa aa (ad (an [6,17,16,15,1,2] rfl (az ?_)))))
    exact au results29 aa (fun w hw=>⟨by
   rw[decide_eq_false fun e=>hkk ?_]
   have h9:=congrArg (fun l=>l[k]?) e
   simp only[List.getElem?_map,List.getElem?_eq_getElem hk,List.getElem?_eq_getElem (show k<r2.length by omega),Option.map_some] at h9
   exact Option.some.inj h9,(hw.dp [0,0])⟩)
   ·have hkk:crC r1[k]=crC (r2[k]'(by omega)):=by simp only[Bool.not_eq_false',decide_eq_true_eq] at h30;exact h30
    refine aq (ab (kPv (aL aa aa) aa (kPm aa aa (ad (an [17,16,15,6,1,2] rfl ?_)))))
    exact fun a w st_=>⟨k+1,⟨by first | omega | (simp only;omega),fun j hj=>by
   rcases Nat.lt_succ_iff_lt_or_eq.1 hj with h | h
   ·exact hall j h
   ·subst h;rw[List.getElem?_eq_getElem hk,List.getElem?_eq_getElem (by omega)];exact congrArg some hkk⟩,by first | omega | (simp only;omega),st_.to (aC aa) (fun hh=>(hh.dp [0,0]))⟩
  ·have hk:¬ k<r1.length:=by simp at h18;omega
   refine bC (ac (ab (kPa aa aa (ad (az ?_)))))
   exact au results29 aa (fun w hw=>⟨by
   have e:r1.map crC=r2.map crC:=List.ext_getElem? fun j=>by
    rw[List.getElem?_map,List.getElem?_map]
    by_cases hj:j<k
    ·exact hall j hj
    ·rw[List.getElem?_eq_none (by omega),List.getElem?_eq_none (by omega)]
   rw[decide_eq_true e],hw⟩)
theorem A3(B:World)(Fr:List HP)(q1 q2:Option Addr)(c1 c2:Nat)(r1 r2:List CR)(hn1:r1.length≤1000000)(hn2:r2.length≤1000000)(h1:CmR B Fr q1 c1 r1)(h2:CmR B Fr q2 c2 r2):
 ∀ w,Holds B Fr w→Calls Tryz.prog 15 [.slice q1 r1.length c1,.slice q2 r2.length c2].toArray w (a8 B Fr (.bool (decide (r1.map crC=r2.map crC)))):=by
 refine ao func15 aa ntmps15 aa (ac (ab (kPa aa aa (ad (ac (ab (kPm aa aa (kPm aa aa (ay aa (ar call29 aa) (Db _ _ q1 q2 c1 c2 r1 r2 hn1 hn2 h1 h2) .free aa aa ?_)))))))))
 refine kPa aa aa (ad (az ?_))
 exact au results15 aa (fun w hw=>⟨rfl,hw⟩)
theorem Aj{s:List UInt8}{i:Nat}(h:i<s.length):s.drop i=s.getD i 0::s.drop (i+1):=by
 rw[List.drop_eq_getElem_cons h];simp[h,List.getD]
theorem AD{s:List UInt8}{i:Nat}(h:i<s.length):(s.map u8v)[i]? =some (u8v (s.getD i 0)):=by
 simp[h,List.getD]
theorem Ak{n:Nat}{c:UInt8}{t:List UInt8}(h:c.toNat<48∨57<c.toNat∨18446744073709551615<n*10+(c.toNat - 48)):jm n (c::t)=none:=by
 rw[jm,if_pos h]
theorem x8{n:Nat}{c:UInt8}{t:List UInt8}(h:¬ (c.toNat<48∨57<c.toNat∨18446744073709551615<n*10+(c.toNat - 48))):jm n (c::t)=jm (n*10+(c.toNat - 48)) t:=by
 rw[jm,if_neg h]
theorem BN{s:List UInt8}(h:s=[]∨20<s.length∨(s.getD 0 0=48∧1<s.length)):pJ s=none:=by
 unfold pJ;rw[if_pos h]
theorem BO{s:List UInt8}(h:¬ (s=[]∨20<s.length∨(s.getD 0 0=48∧1<s.length))):pJ s=jm 0 s:=by
 unfold pJ;rw[if_neg h]
theorem Dh{c:UInt8}:((c.toNat:Int)==48)=(c==48):=by
 rw[Bool.eq_iff_iff]
 simp only[beq_iff_eq]
 constructor
 ·intro h;apply UInt8.toNat_inj.1;show c.toNat=48;omega
 ·intro h;subst h;rfl
theorem D8{s:List UInt8}(h:s≠[]):s[(0:Int).toNat]? =some (s.getD 0 0):=by
 cases s with
 | nil=>exact absurd aa h
 | cons a t=>rfl
def Dd(s:List UInt8):Bool:=(s==[])||decide ((s.length:Int)>20)||(((s.getD 0 0).toNat:Int)==48&&decide ((s.length:Int)>1))
theorem ue(s:List UInt8):Dd s=true↔(s=[]∨20<s.length∨(s.getD 0 0=48∧1<s.length)):=by
 unfold Dd
 rw[Dh]
 simp only[Bool.or_eq_true,Bool.and_eq_true,beq_iff_eq,decide_eq_true_eq]
 constructor
 ·rintro((h | h) | ⟨h1,h2⟩)
  ·exact .inl h
  ·exact .inr (.inl (by omega))
  ·exact .inr (.inr ⟨h1,by omega⟩)
 ·rintro(h | h | ⟨h1,h2⟩)
  ·exact .inl (.inl h)
  ·exact .inl (.inr (by omega))
  ·exact .inr ⟨h1,by omega⟩
theorem x7(B:World)(Fr:List HP)(s:List UInt8)(hs:s.length≤1000000):
 ∀ w,Holds B Fr w→Calls Tryz.prog 39 [str s].toArray w (a8 B Fr (.tuple #[w64 ((pJ s).getD 0:Nat),.bool (pJ s).isSome])):=by
 refine ao func39 aa ntmps39 aa (ac (ab (kPa aa aa (kPa aa aa (ad (ac (ac (ab (kPm aa aa (kPv (mT aa aa aa) aa (kPm aa aa ?_)))))))))))
 apply fW (tp:=14) (t:=10) (σ1:=[(10,_),(3,_),(2,_),(0,_)]) 4 rfl (aC rfl)
 ·intro hg1
  refine al aa (aj aa) (.on aa aa (ae hg1)) aa aa (al aa (gI aa runUnderlying9 aa) (.on aa aa (ae hg1)) aa aa (al aa (am aa aa aa) (.on aa aa (ae hg1)) aa aa (kPv (aH aa hg1 aa) aa ?_)))
  exact aV aa (aC aa) (eX hg1)
 ·intro hg1
  refine ap aa (.on aa aa (ag hg1)) aa (ap aa (.on aa aa (ag hg1)) aa (ap aa (.on aa aa (ag hg1)) aa (kPv (aw aa hg1 aa) aa ?_)))
  exact aV aa (aC aa) (eW hg1)
 refine kPm aa aa ?_
 apply fW (tp:=24) (t:=15) (σ1:=[(15,_),(3,_),(2,_),(0,_)]) 9 rfl (aC rfl)
 ·intro hg2
  try have hne0:s≠[]:=by intro e;rw[e] at hg2;revert hg2;decide
  refine al aa (aj aa) (.on aa aa (ae hg2)) aa aa (al aa (BJ (b:=s.getD 0 0) runUnderlying9 aa aa (by decide) (D8 hne0)) (.on aa aa (ae hg2)) aa aa (al aa (am aa aa aa) (.on aa aa (ae hg2)) aa aa (al aa (aj aa) (.on aa aa (ae hg2)) aa aa ?_)))
  apply dF (tp:=23) (t:=19) (σ1:=[(19,_),(15,_),(3,_),(2,_),(0,_)]) 4 rfl (aC rfl)
  ·intro hg3
   refine al aa (aj aa) (.on aa aa (ae hg3)) aa aa (al aa (gI aa runUnderlying9 aa) (.on aa aa (ae hg3)) aa aa (al aa (am aa aa aa) (.on aa aa (ae hg3)) aa aa (al aa (aw aa hg3 aa) (.on aa aa (ae hg2)) aa aa ?_)))
   exact aV aa (aC aa) (cV hg3)
  ·intro hg3
   refine ap aa (.on aa aa (ag hg3)) aa (ap aa (.on aa aa (ag hg3)) aa (ap aa (.on aa aa (ag hg3)) aa (al aa (aH aa hg3 aa) (.on aa aa (ae hg2)) aa aa ?_)))
   exact aV aa (aC aa) (cW hg3)
  refine kPv (aH aa hg2 aa) aa ?_
  exact aV aa (aC aa) (eX hg2)
 ·intro hg2
  try have hne0:s≠[]:=by intro e;rw[e] at hg2;revert hg2;decide
  refine ap aa (.on aa aa (ag hg2)) aa (ap aa (.on aa aa (ag hg2)) aa (ap aa (.on aa aa (ag hg2)) aa (ap aa (.on aa aa (ag hg2)) aa (ap aa (.und aa aa) aa (ap aa (.und aa aa) aa (ap aa (.und aa aa) aa (ap aa (.on aa aa (ag hg2)) aa (kPv (aw aa hg2 aa) aa ?_))))))))
  exact aV aa (aC aa) (eW hg2)
 refine ad ?_
 refine aZ aa (fun h24=> ?_) (fun h24=> ?_)
 ·have hno:pJ s=none:=BN ((ue s).1 h24)
  refine ac (ab (kPa aa aa (kPa aa aa (ad (az ?_)))))
  exact bU results39 aa aa (fun w hw=>⟨by rw[hno];rfl,hw⟩)
 ·have hgo:pJ s=jm 0 s:=BO (fun h=>by have h2:=(ue s).2 h;unfold Dd at h2;rw[h2] at h24;cases h24)
  refine aq (ac (ab (kPa aa aa (ad (ac (ac (ab (kPm aa aa (cI aa (Dg runUnderlying9 runUnderlying72 runUnderlying5 aa) .free aa aa ?_)))))))))
  rintro _ _ ⟨b26,cap26,rfl,rfl⟩
  refine kPv (bB aa runUnderlying72 ⟨_,rfl⟩ rfl) aa (kPm aa aa (ad (aF (cA (ι:=Nat×Nat) [27,26,3,2] (fun (i,n)=>(i≤s.length)∧(n≤18446744073709551615)∧(jm 0 s=jm n (s.drop i))) (fun (i,n)=>[(28,i64 i),(4,w64 n)]) (fun (i,n)=>vy b26 s::Fr) (fun (i,n)=>s.length - i) (0,0) (⟨Nat.zero_le _,by decide,rfl⟩) (fun a w st=>st.to ⟨rfl,rfl,trivial⟩ (fun hh=>hh)) ?_))))
  rintro⟨i,n⟩ ⟨hi0,hn,hinv⟩
  try simp only at hi0 hn hinv ⊢
  refine bY (σ':=[(28,i64 i),(4,w64 n),(27,_),(26,_),(3,_),(2,_)]) (aC aa) (ac (ab (kPv (am aa aa aa) aa (ad (ac ?_)))))
  refine aZ aa (fun h29=> ?_) (fun h29=> ?_)
  ·have hi:i<s.length:=by simp at h29;omega
   obtain⟨c,hc⟩:∃ c,c=s.getD i 0:=⟨_,rfl⟩
   have hdc:s.drop i=c::s.drop (i+1):=by rw[hc];exact Aj hi
   have hbg:(s.map u8v)[i]? =some (u8v c):=by rw[hc];exact AD hi
   clear hc
   have hby:=UInt8.toNat_lt c
   refine aq (ac (aF (ac (ab (kPv (bT runUnderlying72 sizeOf5 aa aa (by omega) (by omega)) aa (kPv (bH (v:=u8v c) isAgg5 (yc (cap:=cap26) 0 aa) aa (by rw[Int.toNat_natCast];exact hbg)) aa (kPa aa aa (ad (ac (ab (kPm aa aa ?_)))))))))))
   refine kPv (cZ (c:=(c.toNat:Int)) runUnderlying5 runUnderlying25 aa (dX (by omega))) aa (kPv (lC aa aa aa) aa (kPa aa aa (ad (ac (ac (ab (kPm aa aa (kPv (am aa aa aa) aa (kPm aa aa ?_)))))))))
   apply fW (tp:=40) (t:=37) (σ1:=[(37,_),(7,_),(28,_),(4,_),(27,_),(26,_),(3,_),(2,_)]) 3 rfl (aC rfl)
   ·intro hg4
    refine al aa (aj aa) (.on aa aa (ae hg4)) aa aa (al aa (am aa aa aa) (.on aa aa (ae hg4)) aa aa (kPv (aH aa hg4 aa) aa ?_))
    exact aV aa (aC aa) (eX hg4)
   ·intro hg4
    refine ap aa (.on aa aa (ag hg4)) aa (ap aa (.on aa aa (ag hg4)) aa (kPv (aw aa hg4 aa) aa ?_))
    exact aV aa (aC aa) (eW hg4)
   refine kPm aa aa ?_
   apply fW (tp:=47) (t:=41) (σ1:=[(41,_),(7,_),(28,_),(4,_),(27,_),(26,_),(3,_),(2,_)]) 6 rfl (aC rfl)
   ·intro hg5
    try have hd9:48≤c.toNat∧c.toNat≤57:=by simp at hg5;omega
    refine al aa (aj aa) (.on aa aa (ae hg5)) aa aa (al aa (aj aa) (.on aa aa (ae hg5)) aa aa (al aa (lC (c:=18446744073709551615 - ((c.toNat:Int) - 48)) aa aa (by rw[show IntKind.u64.wrap ((c.toNat:Int) - 48)=(c.toNat:Int) - 48 from dX (by omega)];exact dX (by omega))) (.on aa aa (ae hg5)) aa aa (al aa (jR (c:=(18446744073709551615 - ((c.toNat:Int) - 48)) / 10) aa aa (by decide) (by rw[Int.tdiv_eq_ediv_of_nonneg (by omega)];exact dX (by omega))) (.on aa aa (ae hg5)) aa aa (al aa (am aa aa aa) (.on aa aa (ae hg5)) aa aa (kPv (aH aa hg5 aa) aa ?_)))))
    exact aV aa (aC aa) (eX hg5)
   ·intro hg5
    try have hd9:48≤c.toNat∧c.toNat≤57:=by simp at hg5;omega
    refine ap aa (.on aa aa (ag hg5)) aa (ap aa (.on aa aa (ag hg5)) aa (ap aa (.on aa aa (ag hg5)) aa (ap aa (.on aa aa (ag hg5)) aa (ap aa (.on aa aa (ag hg5)) aa (kPv (aw aa hg5 aa) aa ?_)))))
    exact aV aa (aC aa) (eW hg5)
   refine ad ?_
   refine aZ aa (fun h47=> ?_) (fun h47=> ?_)
   ·have hbad:jm n (s.drop i)=none:=by
     rw[hdc];refine Ak ?_
     simp at h47;omega
    refine ac (ab (kPa aa aa (kPa aa aa (ad (az ?_)))))
    exact bU results39 aa aa (fun w hw=>⟨by rw[hgo,hinv,hbad];rfl,(hw.dp [0])⟩)
   ·have hok:¬ (c.toNat<48∨57<c.toNat∨18446744073709551615<n*10+(c.toNat - 48)):=by simp at h47;omega
    refine aq (ab (kPm aa aa (kPv (mt aa aa) aa (kPm aa aa (kPv (iS (c:=((n*10+(c.toNat - 48):Nat):Int)) aa aa (by rw[show IntKind.u64.wrap ((c.toNat:Int) - 48)=(c.toNat:Int) - 48 from dX (by omega),dX (by omega)];omega)) aa (kPa aa aa (ad (an [4,28,27,26,3,2] rfl (ab (kPv (aL aa aa) aa (kPm aa aa ?_)))))))))))
    refine ad ?_
    exact fun a w st_=>⟨(i+1,n*10+(c.toNat - 48)),⟨by first | omega | (simp only;omega),by first | omega | (simp only;omega),by rw[hinv,hdc,x8 hok]⟩,by first | omega | (simp only;omega),st_.to (aC aa) (fun hh=>hh)⟩
  ·have hi:¬ i<s.length:=by simp at h29;omega
   refine bC (ac (ab (kPm aa aa (kPa aa aa (kPa aa aa (ad (az ?_)))))))
   exact bU results39 aa aa (fun w hw=>⟨by rw[hgo,hinv,List.drop_eq_nil_of_le (by omega)];rfl,(hw.dp [0])⟩)
def jb(c:Cmd):List UInt8:=if c.1<0∨18≤c.1 then [63] else c.2.foldl (fun l n=>l++([32]++Lib.decDigits n.toNat)) (fw c.1.toNat)
theorem vj:∀ k,k<18→(fw k).length≤7:=by decide
theorem BA{B:World}(fg:FG B){k:Nat}(hk:k<18):B.cell? ⟨1,k*2,none⟩=some (str (fw k)):=by
 obtain⟨b,off,e,_,h⟩:=fg.cell 0 (by decide)
 injection e with e
 injection e with e1 e2
 subst e1;subst e2
 have h2:=h (k*2) (by omega)
 have h3:=mQ k hk
 have h4:vo[k*2]? =some (str (fw k)):=by
  have:=congrArg (fun l=>l[0]?) h3
  simpa using this
 rw[show 0+(0*36+k*2)=k*2 by omega,h4] at h2
 exact h2
theorem qi{α β:Type}{f:β→α→β}{a:β}{l:List α}{k:Nat}(h:k<l.length):(l.take (k+1)).foldl f a=f ((l.take k).foldl f a) l[k]:=by
 rw[List.take_succ_eq_append_getElem h,List.foldl_append];rfl
theorem kY(B:World)(Fr:List HP)[cM Fr B](gl:GL B){n:Int}(h:0≤n∧n<18446744073709551616):∀ w,Holds B Fr w→Calls Tryz.prog 21 [w64 n,i64 10].toArray w (a8 B Fr (str (Lib.decDigits n.toNat))):=by
 obtain⟨u,rfl⟩:=Int.eq_ofNat_of_zero_le h.1
 exact tT B Fr gl u (by omega)
theorem yR{xs:List Int}{k:Nat}(hk:k<xs.length):(xs.map w64)[k]? =some (w64 xs[k]):=by simp[hk]
theorem Au(B:World)(Fr:List HP)[cM Fr B](gl:GL B)(fg:FG B)(kd:Int)(q:Option Addr)(cap:Nat)(ns:List Int)(hn:ns.length≤1000)(hnb:∀ n∈ns,0≤n∧n<18446744073709551616)(hr:SlR B Fr (.slice q ns.length cap) (ns.map w64))(hq:∀ i,i<ns.length→∃ b off,q=some ⟨b,off,none⟩):
 ∀ w,Holds B Fr w→Calls Tryz.prog 13 [.agg #[i64 kd,.slice q ns.length cap]].toArray w (a8 B Fr (str (jb (kd,ns)))):=by
 refine ao func13 aa ntmps13 aa (ac (ab (kPb (aY aa) aa fun b1=>(kPa aa aa (ad (ac (ac (ab (kPl iJ isAgg29 aa aa aa aa (kPv (am aa aa aa) aa (kPm aa aa ?_)))))))))))
 apply fW (tp:=13) (t:=9) (σ1:=[(9,_),(2,_),(1,_)]) 4 rfl (aC rfl)
 ·intro hg1
  refine al aa (aE (m:=_) iJ aa aa) (.on aa aa (ae hg1)) aa aa (al aa (ai isAgg29 aa aa) (.on aa aa (ae hg1)) aa aa (al aa (am aa aa aa) (.on aa aa (ae hg1)) aa aa (kPv (aH aa hg1 aa) aa ?_)))
  exact aV aa (aC aa) (eX hg1)
 ·intro hg1
  refine ap aa (.on aa aa (ag hg1)) aa (ap aa (.on aa aa (ag hg1)) aa (ap aa (.on aa aa (ag hg1)) aa (kPv (aw aa hg1 aa) aa ?_)))
  exact aV aa (aC aa) (eW hg1)
 refine ad ?_
 refine aZ aa (fun h13=> ?_) (fun h13=> ?_)
 ·have hbad:kd<0∨18≤kd:=by simpa using h13
  have hres:jb (kd,ns)=[63]:=by unfold jb;rw[if_pos hbad]
  refine ac (ab (kPa aa aa (ad (az ?_))))
  exact au results13 aa (fun w hw=>⟨by rw[hres],(hw.dp [0])⟩)
 ·have hok:¬ (kd<0∨18≤kd):=by intro h;simp at h13;omega
  have hk18:kd.toNat<18:=by omega
  have hres:jb (kd,ns)=ns.foldl (fun l n=>l++([32]++Lib.decDigits n.toNat)) (fw kd.toNat):=by unfold jb;rw[if_neg hok]
  have hf0:=vj kd.toNat hk18
  refine aq (ac (ab (kPl iJ isAgg29 aa aa aa aa (kPv (mS (m:=kd.toNat*2) runUnderlying62 sizeOf61 aa aa (by omega) (by omega) (by omega)) aa (kPv (aE (m:=_) wT aa aa) aa (kPv (kE isAgg9 aa (BA fg hk18)) aa (kPa aa aa (ad (an [3,2,1] rfl (ac (ac ?_)))))))))))
  refine ab (kPl gH isAgg30 aa aa aa aa (kPv (bB aa runUnderlying30 ⟨_,rfl⟩ rfl) aa (kPm aa aa (ad (aF (cA (ι:=Nat×List UInt8) [21,20,2] (fun (k,o)=>(k≤ns.length)∧(o=((ns.take k).foldl (fun l n=>l++([32]++Lib.decDigits n.toNat)) (fw kd.toNat)))∧(o.length≤7+k*21)) (fun (k,o)=>[(22,i64 k),(3,str o)]) (fun (k,o)=>row b1 [i64 kd,.slice q ns.length cap] 32::Fr) (fun (k,o)=>ns.length - k) (0,fw kd.toNat) (⟨Nat.zero_le _,by simp,by omega⟩) (fun a w st=>st.to ⟨rfl,rfl,trivial⟩ (fun hh=>hh)) ?_))))))
  rintro⟨k,o⟩ ⟨hk0,ho,hol⟩
  try simp only at hk0 ho hol ⊢
  refine bY (σ':=[(22,i64 k),(3,str o),(21,_),(20,_),(2,_)]) (aC aa) (ac (ab (kPv (am aa aa aa) aa (ad (ac ?_)))))
  refine aZ aa (fun h23=> ?_) (fun h23=> ?_)
  ·have hk:k<ns.length:=by simp at h23;omega
   obtain⟨bq,oq,rfl⟩:=hq k hk
   have hd20:=mU (ns[k]).toNat (by have:=hnb _ (List.getElem_mem hk);omega)
   refine aq (ac (aF (ac (ab (kPv (bT runUnderlying30 sizeOf25 aa aa (by omega) (by omega)) aa (kPv (bH (v:=w64 ns[k]) isAgg25 hr.up aa (by rw[Int.toNat_natCast];exact yR hk)) aa (kPa aa aa (ad (ab (kPm aa aa (kPm aa aa ?_)))))))))))
   refine ay aa (ar call21 aa) (kY B _ gl (hnb _ (List.getElem_mem hk))) .free aa aa ?_
   refine al aa (dT aa aa (by first | omega | (simp only[List.length_append,List.length_cons,List.length_nil];omega))) .free aa aa ?_
   refine al aa (dT aa aa (by first | omega | (simp only[List.length_append,List.length_cons,List.length_nil];omega))) .free aa aa ?_
   refine kPa aa aa (ad (an [3,22,21,20,2] rfl (ab (kPv (aL aa aa) aa (kPm aa aa (ad ?_))))))
   exact fun a w st_=>⟨(k+1,o++([32]++Lib.decDigits (ns[k]).toNat)),⟨by first | omega | (simp only;omega),by rw[qi hk,ho],by simp only[List.length_append,List.length_cons,List.length_nil];omega⟩,by first | omega | (simp only;omega),st_.to (aC aa) (fun hh=>hh)⟩
  ·have hk:k=ns.length:=by simp at h23;omega
   refine bC (ac (ab (kPm aa aa (kPa aa aa (ad (az ?_))))))
   exact au results13 aa (fun w hw=>⟨by rw[hres,ho,hk,List.take_length],(hw.dp [0])⟩)
theorem Bk{l:List UInt8}{c:UInt8}(h:¬ Lib.indexByte l c<0):∃ i:Nat,Lib.indexByte l c=i∧i<l.length:=by
 rcases jd l c with h1 | h1
 ·omega
 ·exact h1
theorem vT{c:UInt8}{N:Nat}:∀ (k:Nat) (l:List UInt8),l.length≤k→l.length≤N→∀ p∈spl c l,p.length≤N
 | 0,l,h,_,p,hp=>by
   obtain rfl:=List.eq_nil_of_length_eq_zero (Nat.le_zero.1 h)
   simp[spl] at hp;subst hp;exact Nat.zero_le _
 | k+1,l,h,hN,p,hp=>by
   rcases jd l c with h1 | ⟨i,h1,h2⟩
   ·rw[ou h1] at hp;rw[List.mem_singleton.1 hp];exact hN
   ·rw[lU h1] at hp
    rcases List.mem_cons.1 hp with rfl | hp
    ·rw[List.length_take];omega
    ·exact vT k (l.drop (i+1)) (by rw[List.length_drop];omega) (by rw[List.length_drop];omega) p hp
theorem AT(B:World)(Fr:List HP)(s:List UInt8):
 ∀ w,Holds B Fr w→Calls Tryz.prog 51 [str s,.string ⟨#[10]⟩,i64 0].toArray w (Ret B (fun v H'=>∃ b1 b2 b3,v= .func (.func 94) [].toArray [ptr b2,ptr b1,ptr b3].toArray∧H'=row b3 [i64 0] 3::row b2 [.string ⟨#[10]⟩] 9::row b1 [str s] 9::Fr) (fun _ _=>False)):=by
 refine ao func51 aa ntmps51 aa (ac (ab (kPb (dH aa aa) aa fun b3=>(kPb (dH aa aa) aa fun b4=>(kPb (dH aa aa) aa fun b5=>(kPa aa aa (ad (ac (ab (kPv (du aa aa) aa (kPa aa aa ?_)))))))))))
 refine ad (an [6] rfl (az ?_))
 exact au results51 aa (fun w hw=>⟨_,⟨_,_,_,rfl,rfl⟩,hw⟩)
theorem yN(B:World)(Fr:List HP)(s:List UInt8):
 ∀ w,Holds B Fr w→Calls Tryz.prog 26 [str s,.string ⟨#[10]⟩].toArray w (Ret B (fun v H'=>∃ b1 b2 b3,v= .func (.func 94) [].toArray [ptr b2,ptr b1,ptr b3].toArray∧H'=row b3 [i64 0] 3::row b2 [.string ⟨#[10]⟩] 9::row b1 [str s] 9::Fr) (fun _ _=>False)):=by
 refine ao func26 aa ntmps26 aa (ac (ab (kPa aa aa (ad (ac (ab (kPm aa aa (kPm aa aa (aI aa (ar call51 aa) (AT _ _ s) .free aa aa ?_)))))))))
 rintro _ _ ⟨b1,b2,b3,rfl,rfl⟩
 refine kPa aa aa (ad (az ?_))
 exact au results26 aa (fun w hw=>⟨_,⟨_,_,_,rfl,rfl⟩,hw⟩)
theorem yO(B:World)(E:List HP)[cM E B](l f b1 b2 b3 N:Nat)(s:List UInt8)(hs:s.length≤N)(hN:N≤1000000)(ι:Type)(r:Loop)(hrf:r.fn=f)(hrp:r.params.size=1)(I:ι→Prop)(Hx:ι→List HP)(cd:ι→Code)(st:List UInt8→ι→Bool×ι)(x0:ι)(h0:I x0)(hround:∀ (p:List UInt8) (x:ι),p.length≤N→I x→I (st p x).2∧∀ (E:List HP) [cM E B] w,Holds B (blk l (.loop r)::(Hx x++E)) w→RoundIn (Wd (cxF f)) 0 Tryz.prog l f ((r.params.zip [str p].toArray).foldl (fun tmps (t,a)=>tmps.setIfInBounds t a) r.tmps) r.assign r.body w (Ret B (fun rv H'=>rv= .bool (st p x).1∧H'=blk l (.loop (lst r cd (st p x)))::(Hx (st p x).2++E)) (fun _ _=>False))):
 ∀ w,Holds B (row b1 [str s] 9::row b2 [.string ⟨#[10]⟩] 9::row b3 [i64 0] 3::blk l (.loop r)::(Hx x0++E)) w→Calls Tryz.prog 94 [.func (.yield l) #[] #[],ptr b2,ptr b1,ptr b3].toArray w (Ret B (fun _ H'=>I (itl st (spl 10 s) x0).2∧H'=blk l (.loop (lst r cd (itl st (spl 10 s) x0)))::(Hx (itl st (spl 10 s) x0).2++E)) (fun _ _=>False)):=by
 refine ao func94 aa ntmps94 aa (ac (ac (ab (kPv (ai isAgg9 aa aa) aa (kPv (gI aa runUnderlying9 aa) aa (kPv (am aa aa aa) aa (ad (bJ aa (rfl) (aq (ac (aF ?_)))))))))))
 refine cA (ι:=List UInt8×ι) [0,1,2,3] (fun (q,x)=>(q.length≤s.length)∧(I x)∧(itl st (spl 10 s) x0=itl st (spl 10 q) x)) (fun (q,x)=>[]) (fun (q,x)=>row b1 [str q] 9::row b2 [.string ⟨#[10]⟩] 9::row b3 [i64 0] 3::blk l (.loop r)::(Hx x++E)) (fun (q,x)=>q.length) (s,x0) (⟨Nat.le_refl _,h0,rfl⟩) (fun a w st=>st.to trivial (fun hh=>hh)) ?_
 rintro⟨q,x⟩ ⟨hq,hIx,hinv⟩
 try simp only at hq hIx hinv ⊢
 refine bY (σ':=[(0,_),(1,_),(2,_),(3,_)]) (aC aa) (aF (ac (ab (kPv (ai isAgg9 aa aa) aa (kPv (ai isAgg9 aa aa) aa (ay aa (ar call41 aa) (AU _ q 10) .free aa aa ?_))))))
 refine kPa aa aa (ad (ac (ac (ab (kPm aa aa (kPv (am aa aa aa) aa (ad ?_)))))))
 refine aZ aa (fun h33=> ?_) (fun h33=> ?_)
 ·have hneg:Lib.indexByte q 10= -1:=rG (by simpa using h33)
  refine bC (ab (kPm aa aa (kPv (ai isAgg9 aa aa) aa ?_)))
  refine fV (f:=f) (r:=r) (H1:=Hx x++(row b1 [str q] 9::row b2 [.string ⟨#[10]⟩] 9::row b3 [i64 0] 3::E)) aa aa (fun w hh=>hh.perm (wm (Hx x) E)) (by rw[hrp];rfl) hrf ((hround q x (by omega) hIx).2 (row b1 [str q] 9::row b2 [.string ⟨#[10]⟩] 9::row b3 [i64 0] 3::E)) .free aa ?_ ?_
  rotate_left
  ·rintro _ _ ⟨⟩
  rintro _ _ ⟨rfl,rfl⟩
  refine aN (fun w hh=>hh.perm (wm (Hx (st q x).2) E).symm) (ad (an [] rfl ?_))
  exact cS results94 (fun w hh=>⟨_,⟨by rw[hinv,ou hneg,Bj];exact(hround q x (by omega) hIx).1,by rw[hinv,ou hneg,Bj]⟩,(hh.dp [0,0,0])⟩)
 ·obtain⟨i,hi,hil⟩:=Bk (show ¬ Lib.indexByte q 10<0 by simpa using h33)
  rw[hi]
  refine aq (ac (ab (kPv (ai isAgg9 aa aa) aa (kPm aa aa (kPv (ai isAgg3 aa aa) aa (kPv (iS aa aa (show IntKind.i64.wrap ((i:Int)+0)=i by rw[Int.add_zero];exact fR (by omega))) aa (kPv (k8 runUnderlying9 aa aa (by omega) (by omega)) aa (kPa aa aa (ad (an [8,7,0,1,2,3] rfl (ac ?_)))))))))))
  refine ac (ab (kPm aa aa (kPm aa aa ?_)))
  refine fV (f:=f) (r:=r) (H1:=Hx x++(row b1 [str q] 9::row b2 [.string ⟨#[10]⟩] 9::row b3 [i64 0] 3::E)) aa aa (fun w hh=>hh.perm (wm (Hx x) E)) (by rw[hrp];rfl) hrf ((hround (q.take i) x (by rw[List.length_take];omega) hIx).2 (row b1 [str q] 9::row b2 [.string ⟨#[10]⟩] 9::row b3 [i64 0] 3::E)) .free aa ?_ ?_
  rotate_left
  ·rintro _ _ ⟨⟩
  rintro _ _ ⟨rfl,rfl⟩
  refine aN (fun w hh=>hh.perm (wm (Hx (st (q.take i) x).2) E).symm) (kPv (bx aa) aa (ad ?_))
  refine aZ aa (fun h42=> ?_) (fun h42=> ?_)
  ·have hg:(st (q.take i) x).1=false:=by simpa using h42
   have hres:itl st (spl 10 s) x0=st (q.take i) x:=by rw[hinv,lU hi];exact xP hg
   refine az ?_
   exact i7 results94 (fun w hh=>⟨_,⟨by rw[hres];exact(hround (q.take i) x (by rw[List.length_take];omega) hIx).1,by rw[hres]⟩,(hh.dp [0,0,0])⟩)
  ·have hg:(st (q.take i) x).1=true:=by simpa using h42
   have hlr:lst r cd (st (q.take i) x)=r:=by unfold lst;rw[if_pos hg]
   refine aq (ab (kPv (ai isAgg9 aa aa) aa (kPm aa aa (kPv (ai isAgg9 aa aa) aa (kPv (gI aa runUnderlying9 aa) aa (kPv (iS aa aa (show IntKind.i64.wrap ((i:Int)+(([10]:List UInt8).length:Int))=((i+1:Nat):Int) by simp only[List.length_cons,List.length_nil];rw[fR (by omega)];omega)) aa (kPv (mR (i:=((i+1:Nat):Int)) runUnderlying9 aa aa (by omega) (by omega)) aa ?_)))))))
   refine kPs (aO sizeOf9 aa aa (by first | rfl | assumption) rfl) rfl ?_;refine ad ?_;refine an [0,1,2,3] rfl ?_
   exact fun a w st_=>⟨(q.drop (i+1),(st (q.take i) x).2),⟨by rw[List.length_drop];omega,(hround (q.take i) x (by rw[List.length_take];omega) hIx).1,by rw[hinv,lU hi];simp only[itl];rw[if_pos hg]⟩,by rw[List.length_drop];omega,st_.to (aC aa) (fun hh=>(by have hh:=hh;rw[hlr] at hh;exact hh))⟩
theorem lP:∀ (l:List UInt8) (st:Option (List UInt8)),(tok l st).length≤l.length+1∧∀ p∈tok l st,p.length≤l.length+(st.getD []).length
 | [],st=>by cases st<;>simp[tok]
 | x::t,st=>by
   have h1:=lP t none
   have h2:=lP t (some (st.getD []++[x]))
   unfold tok
   split
   ·cases st with
    | none=>exact⟨by simp only[List.length_cons];omega,fun p hp=>by have:=h1.2 p hp;simp at this ⊢;omega⟩
    | some c=>
      refine⟨by simp only[List.length_cons];omega,fun p hp=> ?_⟩
      rcases List.mem_cons.1 hp with rfl | hp
      ·simp
      ·have:=h1.2 p hp;simp at this ⊢;omega
   ·exact⟨by simp only[List.length_cons];omega,fun p hp=>by have:=h2.2 p hp;simp at this ⊢;omega⟩
theorem qf{p:List UInt8}(hp:p.length≤100000)(i:Nat):((tok (bS p) none).getD i []).length≤1000000:=by
 have h:=(lP (bS p) none).2
 have h2:=mv p
 rw[List.getD_eq_getElem?_getD]
 cases e:(tok (bS p) none)[i]? with
 | none=>simp
 | some q=>have:=h q (List.mem_of_getElem? e);simp at this ⊢;omega
theorem vN{p:List UInt8}(hp:p.length≤100000):(tok (bS p) none).length≤1000000:=by
 have h:=(lP (bS p) none).1
 have h2:=mv p
 omega
theorem tf(B:World)(Fr:List HP)[cM Fr B](gl:GL B)(fg:FG B)(s:List UInt8):
 ∀ w,Holds B Fr w→Calls Tryz.prog 14 [str s].toArray w (Ret B (fun rv H'=>∃ sv,aM sv=true∧rv= .tuple #[sv,i64 (cH s).2.1,i64 (cH s).2.2]∧H'=gh 0 (sv,(cH s).1)::Fr) (fun _ _=>False)):=by
 refine eJ func14 aa ntmps14 aa (ac (ab (kPb (ck zeroValue24 aa) aa fun b2=>(kPb (ck zeroValue3 aa) aa fun b3=>(kPb (ck zeroValue36 aa) aa fun b4=>(ad (wN (ac (ac (ab (kPm aa aa ?_)))))))))))
 refine kPv (gI aa runUnderlying9 aa) aa (kPv (am aa aa aa) aa (ad ?_))
 refine aZ aa (fun h13=> ?_) (fun h13=> ?_)
 ·have hsl:65536<s.length:=by simp at h13;omega
  have hres:cH s=([],0,11):=by unfold cH;rw[if_pos hsl]
  refine ac (ab ?_)
  refine kPs (aO sizeOf24 aa aa (by first | rfl | assumption) rfl) rfl ?_;refine kPs (aO sizeOf3 aa aa aa aa) aa ?_;refine kPs (aO sizeOf36 aa aa aa aa) aa ?_;refine ad ?_;refine az ?_
  exact rp results14 (.nil) (.aM aa isAgg24 aa) (.aM aa isAgg3 aa) (.aM aa isAgg36 aa) (fun w hh=>⟨_,⟨.slice none 0 0,rfl,by rw[hres],rfl⟩,by rw[hres];exact gb ((hh.dp [0,0,0]))⟩)
 ·have hsl:s.length≤65536:=by simp at h13;omega
  refine aq (ac (ab (kPb (ck zeroValue24 aa) aa fun b5=>(ad (ac (ab (kPb (ck zeroValue3 aa) aa fun b6=>(kPs (aO sizeOf3 aa aa aa aa) aa (ad (ac (wO ?_)))))))))))
  refine ac (ac (ab (kPm aa aa (aI aa (ar call26 aa) (yN B _ s) .free aa aa ?_))))
  rintro _ _ ⟨c1,c2,c3,rfl,rfl⟩
  refine ad (aF (kX aa call94 ?_))
  intro l m tmps hts hkn w hh
  have hk2:=hkn 2 _ rfl
  have hk3:=hkn 3 _ rfl
  have hk4:=hkn 4 _ rfl
  have hk5:=hkn 5 _ rfl
  have hk6:=hkn 6 _ rfl
  refine(yO B (blk m (.deferred (some []))::Fr) l 14 c1 c2 c3 65536 s hsl (by decide) PSt _ aa aa (fun x=>x.2.1.length≤400) (fun x=>[row b6 [i64 x.1] 3,Dp b5 x.2.1,row b2 [.slice none 0 0] 24,row b3 [i64 x.2.2.2.1] 3,row b4 [i64 x.2.2.2.2] 36]) (fun _=> .ret) stP p0 (Nat.zero_le _) ?_ w (by have h1:=(hh.pk [6,4,3,2,0,1,3,2,1]);exact(jz aa ((gb h1).pk [1])).pk [1,1,1,1,1])).mono (Ret.mono ?_ fun _ _ h=>h.elim)
  ·intro p x hpl hxl
   refine⟨?_,fun E hE=> ?_⟩
   ·unfold stP;simp only;split
    ·exact hxl
    ·split
     ·exact hxl
     ·split
      ·exact hxl
      ·simp only[List.length_append,List.length_cons,List.length_nil];omega
   simp only[List.cons_append,List.nil_append]
   refine gN (n:=42) (σ:=[(16,str p),(2,ptr b2),(3,ptr b3),(4,ptr b4),(5,ptr b5),(6,ptr b6)]) func14 (by simp[fP,hts]) (KnA.knows (by simp[KnA,fP,hts];exact⟨(Array.getElem?_eq_some_iff.1 hk2).2,(Array.getElem?_eq_some_iff.1 hk3).2,(Array.getElem?_eq_some_iff.1 hk4).2,(Array.getElem?_eq_some_iff.1 hk5).2,(Array.getElem?_eq_some_iff.1 hk6).2⟩)) aa ?_
   refine ab (kPa aa aa (ad (kv (aF (ac (ab (kPv (ai isAgg3 aa aa) aa (kPv (iS aa aa aa) aa (kPs (aO sizeOf3 aa aa aa aa) aa (ad (ac ?_)))))))))))
   refine ab (kPm aa aa (aI aa (ar call27 aa) (yC _ _ p (by omega)) .free aa aa ?_))
   rintro sv _ rfl
   refine kPa aa aa (ad (ac (ac (nQ fun q cap hq hcap hqi=> ?_))))
   subst hq
   refine ab (kPm aa aa (kPv (bB aa runUnderlying50 ⟨_,rfl⟩ rfl) aa (kPv (am aa aa aa) aa (ad (an [23,8,2,3,4,5,6] rfl ?_)))))
   refine aZ aa (fun h23=> ?_) (fun h23=> ?_)
   ·have hws:(tok (bS p) none)=[]:=List.eq_nil_of_length_eq_zero (by simp at h23;simpa using h23)
    refine bC ?_
    have hst:stP p x=(true,IntKind.i64.wrap (x.1+1),x.2.1,x.2.2):=by unfold stP;simp only;rw[if_pos hws]
    refine aS [1] ?_
    exact ku fun w hh=>⟨_,⟨by rw[hst],rfl⟩,by rw[hst];exact(hh.dp [1])⟩
   ·have hws:¬ (tok (bS p) none)=[]:=fun e=>by simp[e] at h23
    refine aq (ac (ac (aS [3] (wJ fun rv hrv=>(aS [1] (rO fun rs hrs=>(l9 fun q2 cap2 hq2 hqi2=> ?_)))))))
    subst hq2
    have hrl:rs.length=x.2.1.length:=by rw[←hrs.1,List.length_map]
    refine ab (kPv (ai isAgg24 aa aa) aa (kPv (bB aa runUnderlying24 ⟨_,rfl⟩ rfl) aa (kPv (am aa aa aa) aa (ad ?_))))
    refine aZ aa (fun h26=> ?_) (fun h26=> ?_)
    ·have h400:x.2.1.length=400:=by simp at h26;omega
     refine ac (cR [0,1,2,3] [1,2,3] [0] [1] [row b6 ([i64 x.1].set 0 (i64 (IntKind.i64.wrap (x.1+1)))) 3] Tryz.mixed (by kernel_rfl) ?_)
     refine ak aa aa aa (ai isAgg3 aa aa) .free aa (aT aa aa ?_)
     refine kPs (aO sizeOf24 aa aa (by first | rfl | assumption) rfl) rfl ?_;refine ad ?_;refine cN ?_;refine aT aa aa ?_;refine kPs (aO sizeOf3 aa aa aa aa) aa ?_;refine ad ?_
     refine c7 aa (aT aa aa (kPs (aO sizeOf36 aa aa aa aa) aa (ad (c7 aa (cx (az ?_))))))
     have hst:stP p x=(false,IntKind.i64.wrap (x.1+1),x.2.1,[],IntKind.i64.wrap (x.1+1),11):=by unfold stP;simp only;rw[if_neg hws,if_pos (by omega)]
     refine aS [4] ?_
     exact wK fun w hh=>⟨_,⟨by rw[hst],rfl⟩,by rw[hst];exact(by have h1:=((hh.dp [4]).pk [1,1,1]);exact(jz hrv ((fA hrs h1).pk [1])).pk [1,1])⟩
    ·have h400:¬ x.2.1.length=400:=by simp at h26;omega
     refine aq (ac ?_)
     obtain⟨bq,oq,rfl⟩:=hqi (by cases h:(tok (bS p) none) with | nil=>exact absurd h hws | cons a t=>simp)
     have hwl0:0<(tok (bS p) none).length:=by cases h:(tok (bS p) none) with | nil=>exact absurd h hws | cons a t=>simp
     refine ab (kPm aa aa (aS [3] (aI aa (ar call28 aa) (zr B _ gl fg (tok (bS p) none) (by omega) (vN (by omega)) (qf (by omega)) _ _ _ hcap (j9 0 aa)) .free aa aa ?_)))
     rintro _ _ ⟨sv9,hsv9,rfl,rfl⟩
     refine kPm aa aa (kPv (aA aa aa) aa (kPv (aA aa aa) aa (kPb (aD zeroValue32 aa) aa fun b9=>(kPs (ax (vs:=[i64 (cJ (tok (bS p) none)).1.1,sv9]) sizeOf32 aa aa aa (show([i64 (cJ (tok (bS p) none)).1.1,sv9]:List Value).all aM=true by simp only[List.all_cons,List.all_nil,hsv9];rfl) aa) aa (kPa aa aa (ad (an [10,9,2,3,4,5,6] rfl (ac (ac (ab (kPm aa aa ?_)))))))))))
     refine kPv (am aa aa aa) aa (ad ?_)
     refine aZ aa (fun h34=> ?_) (fun h34=> ?_)
     ·have he0:(cJ (tok (bS p) none)).2≠0:=by simpa using h34
      refine ac (cR [0,1,2,3,4] [2,3,4] [0,1] [2,3] [row b6 ([i64 x.1].set 0 (i64 (IntKind.i64.wrap (x.1+1)))) 3] Tryz.mixed (by kernel_rfl) ?_)
      refine ak aa aa aa (ai isAgg3 aa aa) .free aa (ak aa aa aa (aj aa) .free aa (aT aa aa ?_))
      refine kPs (aO sizeOf24 aa aa (by first | rfl | assumption) rfl) rfl ?_;refine ad ?_;refine cN ?_;refine aT aa aa ?_
      refine kPs (aO sizeOf3 aa aa aa aa) aa (ad (cN (aT aa aa (kPs (aO sizeOf36 aa aa aa aa) aa (ad (c7 aa (cx (az ?_))))))))
      have hst:stP p x=(false,IntKind.i64.wrap (x.1+1),x.2.1,[],IntKind.i64.wrap (x.1+1),(cJ (tok (bS p) none)).2):=by unfold stP;simp only;rw[if_neg hws,if_neg (by omega),if_pos he0]
      refine aS [6] ?_
      exact wK fun w hh=>⟨_,⟨by rw[hst],rfl⟩,by rw[hst];exact(by have h1:=((hh.dp [1,1,1]).pk [1,1,1]);exact(jz hrv ((fA hrs h1).pk [1])).pk [1,1])⟩
     ·have he0:(cJ (tok (bS p) none)).2=0:=by simpa using h34
      refine aq (aS [1] (pq fun q3 c3 hq3=> ?_))
      subst hq3
      refine ab (kPv (ai isAgg24 aa aa) aa (kPv (ah isAgg32 sizeOf32 aa aa) aa ?_))
      refine kPb (lH ny (v:=((cJ (tok (bS p) none)).1.1,(q3,(cJ (tok (bS p) none)).1.2.length,c3),(cJ (tok (bS p) none)).1.2)) runUnderlying24 sizeOf32 zeroValue32 ⟨⟨by decide,by decide⟩,rfl⟩ rfl aa) aa fun b39=>(aS [4,0] (cI aa (gc ny (ys:=[((cJ (tok (bS p) none)).1.1,(q3,(cJ (tok (bS p) none)).1.2.length,c3),(cJ (tok (bS p) none)).1.2)]) aa aa runUnderlying24 runUnderlying24 ⟨_,rfl⟩ sizeOf32 zeroValue32 aa B8 aa aa (SlM.row (b:=b39) aa aa) (Nat.succ_pos _) (by simp;omega)) .free aa aa ?_))
      rintro rv2 _ ⟨hrv2,rfl⟩
      refine kPs (aO sizeOf24 aa aa (by first | rfl | assumption) rfl) rfl ?_;refine ad ?_;refine an [2,3,4] rfl ?_
      have hst:stP p x=(true,IntKind.i64.wrap (x.1+1),x.2.1++[(cJ (tok (bS p) none)).1],x.2.2):=by unfold stP;simp only;rw[if_neg hws,if_neg (by omega),if_neg (by simpa using he0)]
      refine aS [7] ?_
      exact ku fun w hh=>⟨_,⟨by rw[hst],rfl⟩,by rw[hst];exact(by have h1:=((hh.dp [2,3,3]).pk [3,2,1,1]);have h2:=qz (t:=((cJ (tok (bS p) none)).1.1,(q3,(cJ (tok (bS p) none)).1.2.length,c3),(cJ (tok (bS p) none)).1.2)) h1;exact(jz hrv2 ((fA (hrs.push aa) (h2.pk [1])).pk [1])).pk [1,1])⟩
  rintro _ _ ⟨_,rfl⟩
  simp only[List.cons_append,List.nil_append]
  refine⟨_,_,fun w hh=>hh,kj (by simp[fP]),fun hp=> ?_,fun c' hc'=> ?_⟩
  rotate_left
  ·obtain⟨h1,rfl⟩:=ki rfl hc'
   refine az ?_
   have hres:cH s=(itl stP (spl 10 s) p0).2.2.2:=by unfold cH;rw[if_neg (by omega),if_neg (by rw[h1];decide)]
   have hbad:=ri _ _ h1
   exact rp results14 (.at 6 .nil) (.aM aa isAgg24 aa) (.aM aa isAgg3 aa) (.aM aa isAgg36 aa) fun w hh=>⟨_,⟨.slice none 0 0,rfl,by rw[hres],rfl⟩,by rw[hres,hbad];exact gb ((hh.dp [0,0,0,0,0,0,0]))⟩
  have hres:cH s=((itl stP (spl 10 s) p0).2.2.1,0,0):=by unfold cH;rw[if_neg (by omega),if_pos (tE hp)]
  refine aS [2] (wJ fun rv hrv=>(ac (ab (kPv (ai isAgg24 aa aa) aa ?_))))
  refine kPs (aO sizeOf24 aa aa (by first | rfl | assumption) rfl) rfl ?_;refine kPs (aO sizeOf3 aa aa aa aa) aa ?_;refine kPs (aO sizeOf36 aa aa aa aa) aa ?_;refine ad ?_;refine an [4,3,2] rfl ?_;refine az ?_
  exact rp results14 (.at 7 (.nil)) (.aM aa isAgg24 aa) (.aM aa isAgg3 aa) (.aM aa isAgg36 aa) (fun w hh=>⟨_,⟨rv,hrv,by rw[hres],rfl⟩,by rw[hres];exact(hh.dp [0,1,1,1,1,1,1])⟩)
end Go.Proofs.YtoakdoeajpjgkaaGreatDoor
