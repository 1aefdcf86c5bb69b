/- Part of a law's texts. Conditions: none. -/
import Derived.Test.YtoakdoeajpjgkaaGreatDoorQL18Jj
open Go.Proofs.Tryz
set_option linter.all false
namespace Go.Proofs.YtoakdoeajpjgkaaGreatDoor
open Go
theorem ru:∀ (k:Nat) (i:Int) (S S':bE) (s s':Dev),fp S→U64 s→S.todo=[]→jR k i S s= .ok S' s'→fp S'∧U64 s'∧S'.scan=S.scan∧S'.todo=[]∧S'.done=S.done∧S'.b=S.b∧S'.bd=S.bd∧S'.c=S.c∧S'.to_=S.to_∧S.free≤S'.free∧S'.free - S.free+66*(S.b.used.toNat - S'.went.length:Nat)≤66*(S.b.used.toNat - S.went.length:Nat)
 | 0,_,S,S',s,s',h,hu,ht,e=>by cases e;exact⟨h,hu,rfl,ht,rfl,rfl,rfl,rfl,rfl,Int.le_refl _,by omega⟩
 | k+1,i,S,S',s,s',h,hu,ht,e=>by
   unfold jR at e
   split at e
   ·exact ru k _ S S' s s' h hu ht e
   ·obtain⟨r,s1,e1,e⟩:=aK e
    obtain⟨_,s2,e2,e⟩:=aK e
    obtain⟨h1,hv,h2,h3,h4,h5,h6,h7,h8,h9,h10⟩:=mg h e1
    have u1:=jL hu e1
    have u2:=cx u1.1 (by omega) e2
    obtain⟨g1,gu,g2,g3,g4,g5,g6,g7,g8,g9,g10⟩:=ru k _ r.2 S' s2 s' h1 u2.1 (h3.trans ht) e
    rw[h5] at g10
    exact⟨g1,gu,g2.trans h2,g3,g4.trans h4,g5.trans h5,g6.trans h6,g7.trans h7,g8.trans h8,Int.le_trans h9 g9,by omega⟩
theorem qy:∀ (f:Nat) (i e:Int) (s s':Dev) (a:Unit),U64 s→lS f i e s= .ok a s'→U64 s'
 | 0,_,_,s,s',a,h,e=>by cases e;exact h
 | f+1,i,e',s,s',a,h,e=>by
   unfold lS at e
   split at e
   ·obtain⟨_,s1,e1,e⟩:=aK e
    exact qy f _ _ s1 s' a (dO h e1).1 e
   ·cases e;exact h
theorem zE{S:bE}{s s':Dev}{a:Unit}(h:U64 s)(e:S.keep s= .ok a s'):U64 s':=by
 unfold bE.keep at e
 obtain⟨_,s1,e1,e⟩:=aK e
 have h1:=qy _ _ _ _ _ _ h e1
 split at e
 ·exact(eS h1 e).1
 ·cases e;exact h1
theorem rn{S:bE}(h:fp S){s s':Dev}(hu:U64 s){r:Bool×bE}(e:S.step s= .ok r s'):fp r.2∧U64 s'∧r.2.b=S.b∧r.2.bd=S.bd∧r.2.c=S.c∧r.2.to_=S.to_∧r.1=r.2.done∧(r.1=false→r.2.meas<S.meas):=by
 have hwl:=h.wl;have hfb:=h.fb
 unfold bE.step at e
 split at e
 ·rename_i hd;cases e;exact⟨h,hu,rfl,rfl,rfl,rfl,hd.symm,fun hh=>by cases hh⟩
 rename_i hd
 have hd0:S.done=false:=by simpa using hd
 split at e
 ·rename_i w t ht
  obtain⟨r1,s1,e1,e⟩:=aK e
  cases e
  obtain⟨h1,_,h2,h3,h4,h5,h6,h7,h8,h9,h10⟩:=mg h e1
  refine⟨⟨h1.c,h1.b,h1.rl,h1.to_,h1.scan,h1.free,h1.nd,h1.rng,h1.val,fun v hv=>h.todo v (by rw[ht];exact List.mem_cons_of_mem _ hv),h1.rts⟩,(jL hu e1).1,h5,h6,h7,h8,by simp only[h4,hd0],fun _=> ?_⟩
  unfold bE.meas
  simp only[ht,h2,h4,h5,List.length_cons]
  split<;>omega
 ·rename_i ht
  have hub:=qd (s.load S.scan)
  split at e
  ·rename_i hlt
   obtain⟨S1,s1,e1,e⟩:=aK e
   cases e
   obtain⟨h1,gu,h2,h3,h4,h5,h6,h7,h8,h9,h10⟩:=ru _ _ _ _ _ _ h hu ht e1
   have hsc:=h.scan
   refine⟨⟨h1.c,h1.b,h1.rl,h1.to_,⟨by have:=h1.scan;simp only;omega,by simp only;omega⟩,h1.free,h1.nd,h1.rng,h1.val,h1.todo,h1.rts⟩,gu,h5,h6,h7,h8,by simp only[h4,hd0],fun _=> ?_⟩
   unfold bE.meas
   simp only[ht,h2,h3,h4,h5]
   split<;>omega
  ·obtain⟨_,s1,e1,e⟩:=aK e
   cases e
   exact⟨⟨h.c,h.b,h.rl,h.to_,h.scan,h.free,h.nd,h.rng,h.val,h.todo,h.rts⟩,zE hu e1,rfl,rfl,rfl,rfl,rfl,fun hh=>by cases hh⟩
def DX(x bd:Nat)(sc:Int):HP:=hex fun (y:Nat→Value)=>row x [ptr bd,y 1,y 2,y 3,y 4,y 5,y 6,y 7,i64 sc,y 9,y 10,y 11,y 12] 247
theorem Eo{B:World}{x:Nat}{S:bE}{Fr:List HP}{w:World}(h:Holds B (eY x S::Fr) w):Holds B [DX x S.bd S.scan] w:=by
 obtain⟨p,hx⟩:=h.hex
 refine Holds.unhex (fun i=>(eW S p.1 p.2.1 p.2.2).getD i .nilIface) ?_
 have h2:=hx.grp
 exact h2.map fun k a=>by
  obtain⟨h1,h2,d,s1,s2,ha,hl⟩:=a
  exact⟨h1,h2,d,s1,s2,ha,trivial⟩
instance pK.colf {H Fr:List HP} {x:Nat} {S:bE} [r:pM H (eY x S) Fr]:pK H [DX x S.bd S.scan]:=⟨fun h hh=>by
 obtain⟨i,h1,h2⟩:=r.get
 obtain⟨k1,k2,d,s1,s2,⟨p,hp⟩,hl⟩:=dA i h1 hh
 obtain⟨g1,g2,d',t1,t2,ha,hg⟩:=hp
 exact⟨g1,fun _=>none,fun _=> .inr aa,t1.trans s1,(fun _ _ e=>nomatch e),⟨fun i=>(eW S p.1 p.2.1 p.2.2).getD i .nilIface,ha⟩,trivial⟩⟩
theorem Ar{B:World}{σ:Env}{P:Program}{α:Type}{A:α→HP}{o:Oper}{v:Value}(h:∀ y,Evs P B σ [A y] o v):Evs P B σ [hex A] o v:=fun a w kn hh=>by
 obtain⟨y,hy⟩:=hh.hex
 exact h y a w kn hy
theorem BL{B:World}{n:Nat}{D:List Deferred}{σ:Env}{H H0:List HP}{P:Program}{ro:Cx}{K:Act→World→Prop}{X:Ext}{ops:Array Oper}{ms hs cs:List Nat}{ord:List Nat}{c:Bool}(f:∀ w,Holds B H w→Holds B H0 w)(h:GO B n D σ H (wpV P ro ops ms hs cs (Holds B H0) X K ord)):GO B n D σ H (fun a w=>(c=true→Holds B H0 w)∧wpV P ro ops ms hs cs (Holds B H0) X K ord a w):=fun a w s=>⟨fun _=>f w s.holds,h a w s⟩
theorem gy(f:Nat)(i e:Int)(s:Dev):lS (f+1) i e s=if i<e then (s.flush i).then fun _ s'=>lS f (i+8) e s' else .ok () s:=rfl
theorem ia(k:Nat)(i:Int)(S:bE)(s:Dev):jR (k+1) i S s=if s.load (S.scan+1+i)=0 then jR k (i+1) S s else (S.copied s (s.load (S.scan+1+i))).then fun r s1=>(s1.store (S.scan+1+i) r.1).then fun _ s2=>jR k (i+1) r.2 s2:=rfl
theorem iW(f:Nat)(S:bE)(s:Dev):u7 (f+1) S s=(S.step s).then fun r s'=>if r.1=true then .ok r.2 s' else u7 f r.2 s':=rfl
theorem AJ(B:World)(Fr:List HP)(x:Nat)(S:bE)(hS:fp S)(s:Dev)(hu:U64 s):
 ∀ w,Holds B (eY x S::aB S.bd s::Fr) w→Calls Tryz.prog 203 [ptr x].toArray w (Ret B (fun rv H'=>∃ r s',S.keep s= .ok r s'∧rv=Cy r∧H'=eY x {S with done:=true}::aB S.bd s'::Fr) (fun c H'=>∃ s',S.keep s= .off s'∧c=dV∧H'=aB S.bd s'::Fr)):=by
 refine an func203 aa ntmps203 aa (jF fun rsv tsv mw hrsv htsv=> ?_)
 have hfb:=hS.fb
 have hfr:=hS.free
 have hto:=hS.to_
 refine ac (ac (ab (kPf po isAgg3 aa aa aa aa (kPa aa aa (ad (aG ?_))))))
 refine cK (ι:=Int×Nat×Dev) [0] (fun (i,n,sI)=>(S.to_≤i∧i≤400000)∧(S.free - i≤n)∧(lS ((S.free - S.to_).toNat+1) S.to_ S.free s=lS (n+1) i S.free sI)) (fun (i,n,sI)=>[(2,i64 i)]) (fun (i,n,sI)=>row x (eW S rsv tsv mw) 247::cS 0 (rsv,S.b.rts)::cS 0 (tsv,S.todo)::bx .u64 i64 mw S.went::aB S.bd sI::Fr) (fun (i,n,sI)=>n) (S.to_,(S.free - S.to_).toNat,s) (⟨⟨by first | omega | (simp only;omega),by first | omega | (simp only;omega)⟩,by first | omega | (simp only;omega),rfl⟩) (fun a w st=>st.to ⟨rfl,trivial⟩ (fun hh=>hh)) ?_
 rintro⟨i,n,sI⟩ ⟨hi0,hn,hinv⟩
 try simp only at hi0 hn hinv ⊢
 refine cu (σ':=[(2,i64 i),(0,_)]) ⟨rfl,rfl,trivial⟩ (ac (ac (ab (kPm aa aa (kPf io isAgg3 aa aa aa aa (kPv (ao aa aa aa) aa (ad ?_)))))))
 refine a8 aa (fun h12=> ?_) (fun h12=> ?_)
 ·have hlt:i<S.free:=by simpa using h12
  refine ar (ac (aG (ab (kPf gJ isAgg90 aa aa aa aa (kPm aa aa ?_)))))
  refine aU aa (au call151 aa) (cF (fun Fr=>dB _ Fr _ _ _)) .free aa aa ?_ ?_
  rotate_left
  ·rintro _ _ ⟨s9,⟨hm9,rfl⟩,rfl⟩
   exact bi fun w hh=>⟨_,⟨s9,by unfold bE.keep;rw[hinv,gy,if_pos hlt,hm9];rfl,rfl,rfl⟩,(hh.dp [0,0,0,0])⟩
  rintro _ _ ⟨s1,⟨e1,hm1,rfl⟩,rfl⟩
  refine ad (am [2,0] rfl (ab (kPm aa aa (kPv (aN aa aa) aa (kPa aa aa (ad ?_))))))
  exact fun a w st_=>⟨(i+8,n - 1,s1),⟨by first | omega | (simp only;omega),by first | omega | (simp only;omega),by rw[hinv,gy,if_pos hlt,hm1,show n=n - 1+1 by omega];rfl⟩,by first | omega | (simp only;omega),st_.to ⟨rfl,rfl,trivial⟩ (fun hh=>hh)⟩
 ·have hlt:¬ i<S.free:=by simpa using h12
  refine bF (ac (ac (cV Tryz.mixed (by kernel_rfl) (by kernel_rfl) ?_)))
  refine kQm aa aa (kQv (aI aa) aa (kQv (aD (m:=_) io aa aa) aa (kQv (ah isAgg3 aa aa) aa (kQm aa aa (kQv (aI aa) aa (kQv (aD (m:=_) po aa aa) aa (kQv (ah isAgg3 aa aa) aa (kQv (ao aa aa aa) aa (bY (am [29,0] rfl ?_))))))))))
  refine a8 aa (fun h29=> ?_) (fun h29=> ?_)
  ·have hgt:S.to_<S.free:=by simpa using h29
   refine ab (kPf gJ isAgg90 aa aa aa aa ?_)
   refine aU aa (au call152 aa) (cF (fun Fr=>eR _ Fr _ _)) .free aa aa ?_ ?_
   rotate_left
   ·rintro _ _ ⟨s9,⟨hm9,rfl⟩,rfl⟩
    exact bi fun w hh=>⟨_,⟨s9,by unfold bE.keep;rw[hinv,gy,if_neg hlt];simp only[aR];rw[if_pos hgt];exact hm9,rfl,rfl⟩,(hh.dp [0,0,0,0])⟩
   rintro _ _ ⟨s2,⟨e2,hm2,rfl⟩,rfl⟩
   refine ad (ab (kPm aa aa (kPv (aI aa) aa (kPv (aD (m:=_) im aa aa) aa (kPs (aO sizeOf4 aa aa aa aa) aa (ad (am [] rfl ?_)))))))
   exact cI results203 (fun w hh=>⟨_,⟨(),_,by unfold bE.keep;rw[hinv,gy,if_neg hlt];simp only[aR];rw[if_pos hgt];exact hm2,rfl,rfl⟩,cC (S:={S with done:=true}) hrsv htsv hh⟩)
  ·have hgt:¬ S.to_<S.free:=by simpa using h29
   refine ar (ab (kPm aa aa (kPv (aI aa) aa (kPv (aD (m:=_) im aa aa) aa (kPs (aO sizeOf4 aa aa aa aa) aa (ad ?_))))))
   exact cI results203 (fun w hh=>⟨_,⟨(),_,by unfold bE.keep;rw[hinv,gy,if_neg hlt];simp only[aR];rw[if_neg hgt],rfl,rfl⟩,cC (S:={S with done:=true}) hrsv htsv hh⟩)
theorem ut(B:World)(Fr:List HP)(x:Nat)(S:bE)(v:Int):
 ∀ w,Holds B (eY x S::Fr) w→Calls Tryz.prog 118 [ptr x,w64 v].toArray w (aZ B (eY x S::Fr) (i64 ((bK S.went v).getD 0))):=by
 refine an func118 aa ntmps118 aa (jF fun rsv tsv mw hrsv htsv=>(ac (ab (kPa aa aa (ad (ac (ab (kPf l3 isAgg245 aa aa aa aa (kPm aa aa (kPv ((lr runUnderlying245 runUnderlying25 zeroValue3 aa aa).eq (oJ _)) aa (kPa aa aa ?_)))))))))))
 refine ad (am [4] rfl (az ?_))
 exact aq results118 aa (fun w hh=>⟨rfl,cC hrsv htsv hh⟩)
theorem pz(B:World)(Fr:List HP)(x:Nat)(S:bE)(hS:fp S)(s:Dev)(hu:U64 s):
 ∀ w,Holds B (eY x S::aB S.bd s::Fr) w→Calls Tryz.prog 166 [ptr x].toArray w (Ret B (fun rv H'=>∃ r s',S.step s= .ok r s'∧rv= .bool r.1∧H'=eY x r.2::aB S.bd s'::Fr) (fun c H'=>∃ s',S.step s= .off s'∧c=dV∧H'=aB S.bd s'::Fr)):=by
 refine an func166 aa ntmps166 aa (jF fun rsv tsv mw hrsv htsv=> ?_)
 have hfb:=hS.fb
 have hfr:=hS.free
 have hto:=hS.to_
 have hscan:=hS.scan
 have hub:=qd (s.load S.scan)
 refine ac (ab (kPa aa aa (ad (ac (aG (ac (ab (kPf im isAgg4 aa aa aa aa (kPa aa aa (ad ?_))))))))))
 refine a8 aa (fun h9=> ?_) (fun h9=> ?_)
 ·have hdone:S.done=true:=h9
  have hres:S.step s= .ok (true,S) s:=by unfold bE.step;rw[if_pos hdone]
  refine ar (ac (ab (kPf im isAgg4 aa aa aa aa (kPa aa aa (ad (am [2] rfl (az ?_)))))))
  exact aq results166 aa (fun w hh=>⟨_,⟨_,_,hres,by rw[hdone],rfl⟩,cC hrsv htsv hh⟩)
 ·have hdone:S.done=false:=h9
  refine aP [2] (cE fun qt ct hqt hqi=> ?_)
  subst hqt
  refine aP [1,1,0,0] (ac (ab (kPf l4 isAgg30 aa aa aa aa (kPv (bD aa runUnderlying30 ⟨_,rfl⟩ rfl) aa (kPv (ao aa aa aa) aa (kPa aa aa (ad (am [14,2,0] rfl ?_))))))))
  refine a8 aa (fun h14=> ?_) (fun h14=> ?_)
  ·obtain⟨v,t,htd⟩:∃ v t,S.todo=v::t:=by
    cases ht:S.todo with
    | nil=>rw[ht] at h14;simp at h14
    | cons v t=>exact⟨v,t,rfl⟩
   obtain⟨bq,oq,rfl⟩:=hqi 0 (by rw[htd];exact Nat.succ_pos _)
   refine ac (ab (kPm aa aa (kPf l4 isAgg30 aa aa aa aa (kPv (cg runUnderlying30 sizeOf25 aa aa (by decide) (by rw[htd];simp only[List.length_cons];omega)) aa (kPv (bP (v:=w64 v) isAgg25 (cP 2 aa) aa (by rw[htd];rfl)) aa (aM (fun w hh=>cC hrsv htsv hh) ?_))))))
   refine aU aa (au call202 aa) (pH B _ x S hS s hu v (hS.todo _ (by rw[htd];exact List.mem_cons_self ..))) .free aa aa ?_ ?_
   rotate_left
   ·rintro _ _ ⟨s9,hm9,rfl,rfl⟩
    exact bi fun w hh=>⟨_,⟨s9,by unfold bE.step;rw[if_neg (by rw[hdone];decide)];simp only[htd];rw[hm9];rfl,rfl,rfl⟩,hh⟩
   rintro _ _ ⟨r1,s1,hm1,rfl,rfl⟩
   obtain⟨hS1,hrv1,hsc1,htd1,hdn1,hb1,hbd1,hc1,hto1,hfr1,hms1⟩:=mg hS hm1
   have hu1:=(jL hu hm1).1
   refine ad (am [2,0] rfl (ab (jF fun rsv2 tsv2 mw2 hrsv2 htsv2=>(kPm aa aa (kPm aa aa (kPv (aI aa) aa (kPv (aD (m:=_) l4 aa aa) aa (aP [2] (aM (H':=cS 0 (tsv2,v::t)::_) (fun w hh=>by rw[htd1,htd] at hh;exact hh) (kPv (ah isAgg30 aa aa) aa (cJ aa (uE (v:=v) (xs:=t) runUnderlying30 sizeOf25 aa aa) .free aa aa ?_)))))))))))
   rintro tv3 _ ⟨htv3,rfl⟩
   refine aP [1,1] (kPv (aI aa) aa (kPv (aD (m:=_) l4 aa aa) aa ?_))
   refine kPs (aO sizeOf30 aa aa (by first | rfl | assumption) rfl) rfl ?_;refine ad ?_;refine am [2,0] rfl ?_;refine ac ?_;refine ab ?_;refine kPf im isAgg4 aa aa aa aa ?_;refine kPa aa aa ?_;refine ad ?_;refine az ?_
   exact aq results166 aa (fun w hh=>⟨_,⟨_,_,by unfold bE.step;rw[if_neg (by rw[hdone];decide)];simp only[htd];rw[hm1];rfl,by rw[hdn1,hdone],rfl⟩,cC (S:={r1.2 with todo:=t}) hrsv2 htv3 hh⟩)
  ·have htd:S.todo=[]:=by
    cases ht:S.todo with
    | nil=>rfl
    | cons v t=>rw[ht] at h14;simp at h14<;>omega
   refine ac (cV Tryz.mixed (by kernel_rfl) (by kernel_rfl) ?_)
   refine kQm aa aa (kQv (aI aa) aa (kQv (aD (m:=_) i8 aa aa) aa (kQv (ah isAgg3 aa aa) aa (kQm aa aa (kQv (aI aa) aa (kQv (aD (m:=_) io aa aa) aa (kQv (ah isAgg3 aa aa) aa (kQv (ao aa aa aa) aa (kQa aa aa (bY (am [37,2,0] rfl ?_)))))))))))
   refine a8 aa (fun h37=> ?_) (fun h37=> ?_)
   ·have hlt:S.scan<S.free:=by simpa using h37
    have hstep:S.step s=(jR (unp (s.load S.scan)).2.1.toNat 0 S s).then fun S' s'=> .ok (false,{S' with scan:=S'.scan+((unp (s.load S.scan)).1+1)}) s':=by unfold bE.step;rw[if_neg (by rw[hdone];decide)];simp only[htd];rw[if_pos hlt]
    refine ac ?_
    refine iE (.br [0,1,2,3,4,5,6,7] 8 (.br [] 9 (.fin [10,11,12,13,14,15]) 13 (.fin [9,10,11,12,14,15])) 13 (.fin [8,9,10,11,12,14,15])) [8,9,13,14] [0,1,2,3,4,5,6,7,10,11,12] [13,14] [row x (eW S rsv (.slice qt S.todo.length ct) mw) 247] [2,0] (G:=Nat) (fun b3=>[(3,ptr b3),(4,.bool (unp (s.load S.scan)).2.2)]) (fun b3=>row b3 [i64 (unp (s.load S.scan)).1,i64 (unp (s.load S.scan)).2.1] 102::row x (eW S rsv (.slice qt S.todo.length ct) mw) 247::cS 0 (rsv,S.b.rts)::cS 0 (.slice qt S.todo.length ct,S.todo)::bx .u64 i64 mw S.went::aB S.bd s::Fr) Tryz.mixed (by kernel_rfl) ?_ ?_
    ·skip
     refine sS (aj aa aa aa (ak aa) .free aa (aj aa aa aa (aI aa) .free aa (aj aa aa aa (aD (m:=_) gJ aa aa) .free aa (aj aa aa aa (ah isAgg90 aa aa) .free aa (aj aa aa aa (ak aa) .free aa (aj aa aa aa (aI aa) .free aa (aj aa aa aa (aD (m:=_) i8 aa aa) .free aa (aj aa aa aa (ah isAgg3 aa aa) .free aa (cy ?_)))))))))
     refine mT aa aa ?_ ?_
     ·skip
      refine aw aa (au call173 aa) (bI (q:=aB) (fun Fr=>cq _ Fr _ _ _)) .free aa aa ?_
      refine ad (sR aa (sS (cy ?_)))
      refine mT aa aa ?_ ?_
      ·skip
       refine aw aa (au call190 aa) (iT _ _ _) .free aa aa ?_
       refine ad (sR aa (gR (aj aa aa aa (ak aa) .free aa (aj aa aa aa (aA aa aa) .free aa (aj aa aa aa (aA aa aa) .free aa (aT aa aa (kPb (aC zeroValue102 aa) aa fun b3=>(ad (cN (aT aa aa (kPs (ax (vs:=_) sizeOf102 aa aa aa aa aa) aa ?_)))))))))))
       refine ad (cN (aS aa aa aa (bu aa) .free aa (cy ?_)))
       exact fun a w st_=>⟨b3,st_.to (aE aa) (fun hh=>hh)⟩
      ·skip
       refine kPb (aC zeroValue102 aa) aa fun b3=>(ad (rj (gR (aT aa aa (aw aa (au call190 aa) (iT _ _ _) .free aa aa ?_)))))
       refine ad (c7 aa (aj aa aa aa (ak aa) .free aa (aj aa aa aa (aA aa aa) .free aa (aj aa aa aa (aA aa aa) .free aa (aT aa aa (kPs (ax (vs:=_) sizeOf102 aa aa aa aa aa) aa (ad (cN (aS aa aa aa (bu aa) .free aa (cy ?_))))))))))
       exact fun a w st_=>⟨b3,st_.to (aE aa) (fun hh=>hh)⟩
     ·skip
      refine kPb (aC zeroValue102 aa) aa fun b3=>(ad (rj (gR (aT aa aa (aw aa (au call173 aa) (bI (q:=aB) (fun Fr=>cq _ Fr _ _ _)) .free aa aa ?_)))))
      refine ad (c7 aa (aT aa aa (aw aa (au call190 aa) (iT _ _ _) .free aa aa ?_)))
      refine ad (c7 aa (aj aa aa aa (ak aa) .free aa (aj aa aa aa (aA aa aa) .free aa (aj aa aa aa (aA aa aa) .free aa (aT aa aa (kPs (ax (vs:=_) sizeOf102 aa aa aa aa aa) aa (ad (cN (aS aa aa aa (bu aa) .free aa (cy ?_))))))))))
      exact fun a w st_=>⟨b3,st_.to (aE aa) (fun hh=>hh)⟩
    intro b3
    refine cu (σ':=[(3,ptr b3),(4,.bool (unp (s.load S.scan)).2.2),(2,_),(0,_)]) (aE aa) (ac (ac (aP [1,1,1,1] (aM (fun w hh=>cC hrsv htsv hh) (ab (kPl fZ isAgg3 aa aa aa aa (kPm aa aa (ad (aG ?_)))))))))
    refine cK (ι:=Nat×bE×Dev) [61,3,2,0] (fun (i,SI,sI)=>((i:Int)≤(unp (s.load S.scan)).2.1)∧(fp SI)∧(U64 sI)∧(SI.todo=[])∧(SI.done=S.done)∧(SI.bd=S.bd)∧(SI.scan=S.scan)∧(jR (unp (s.load S.scan)).2.1.toNat 0 S s=jR ((unp (s.load S.scan)).2.1.toNat - i) i SI sI)) (fun (i,SI,sI)=>[(62,i64 i)]) (fun (i,SI,sI)=>row b3 [i64 (unp (s.load S.scan)).1,i64 (unp (s.load S.scan)).2.1] 102::eY x SI::aB SI.bd sI::Fr) (fun (i,SI,sI)=>(unp (s.load S.scan)).2.1.toNat - i) (0,S,s) (⟨by first | omega | (simp only;omega),hS,hu,htd,rfl,rfl,rfl,rfl⟩) (fun a w st=>st.to ⟨rfl,trivial⟩ (fun hh=>(hh.pk [1]))) ?_
    rintro⟨i,SI,sI⟩ ⟨hi0,hSI,huI,htdI,hdI,hbdI,hscI0,hinv⟩
    try simp only at hi0 hSI huI htdI hdI hbdI hscI0 hinv ⊢
    refine cu (σ':=[(62,i64 i),(61,_),(3,_),(2,_),(0,_)]) (aE aa) (ac (ab (kPv (ao aa aa aa) aa (ad (ac ?_)))))
    refine a8 aa (fun h63=> ?_) (fun h63=> ?_)
    ·have hi:(i:Int)<(unp (s.load S.scan)).2.1:=by simpa using h63
     have hscI:=hSI.scan
     refine ar (ac (aG (ac (ab (kPm aa aa (kPa aa aa (ad (ac (aP [1] (jF fun rsv2 tsv2 mw2 hrsv2 htsv2=>(cV Tryz.mixed (by kernel_rfl) (by kernel_rfl) ?_)))))))))))
     refine kQm aa aa (kQv (aI aa) aa (kQv (aD (m:=_) gJ aa aa) aa (kQv (ah isAgg90 aa aa) aa (kQm aa aa (kQv (aI aa) aa (kQv (aD (m:=_) i8 aa aa) aa (kQv (ah isAgg3 aa aa) aa (kQv (aN aa aa) aa (kQm aa aa (kQv (aN aa aa) aa (bG aa (au call173 aa) (bI (q:=aB) (fun Fr=>cq _ Fr _ _ _)) .free aa ?_)))))))))))
     refine kQa aa aa (bY (am [6,5,62,61,3,2,0] rfl (ac (aM (fun w hh=>cC hrsv2 htsv2 hh) (ab (kPm aa aa (kPv (ao aa aa aa) aa (ad ?_))))))))
     refine a8 aa (fun h78=> ?_) (fun h78=> ?_)
     ·have hne:¬ sI.load (SI.scan+1+i)=0:=by simpa using h78
      refine aP [0,1] (aM (fun w hh=>hh) (cW [0,1,2,3,4,5,6,7,8,9,10,11,12,13,14,15] [13,15] [0,1,2,3,4,5,6,7,8,9,10] [13] [DX x SI.bd SI.scan] Tryz.mixed (by kernel_rfl) ?_))
      refine aj aa aa aa (ak aa) .free aa (aj aa aa aa (aI aa) .free aa (aj aa aa aa (aD (m:=_) gJ aa aa) .free aa (aj aa aa aa (Ar fun y=>ah isAgg90 aa aa) .free aa (aj aa aa aa (ak aa) .free aa (aj aa aa aa (aI aa) .free aa (aj aa aa aa (aD (m:=_) i8 aa aa) .free aa (aj aa aa aa (Ar fun y=>ah isAgg3 aa aa) .free aa (aj aa aa aa (aN aa aa) .free aa (aj aa aa aa (ak aa) .free aa (aj aa aa aa (aN aa aa) .free aa (aS aa aa aa (ak aa) .free aa ?_)))))))))))
      refine aS aa aa aa (ak aa) .free aa (aT aa aa ?_)
      refine aU aa (au call202 aa) (pH B _ x SI hSI sI huI (sI.load (SI.scan+1+i)) (huI.load _)) .free aa aa ?_ ?_
      rotate_left
      ·rintro _ _ ⟨s9,hm9,rfl,rfl⟩
       exact bi fun w hh=>⟨_,⟨s9,by rw[hstep,hinv,show(unp (s.load S.scan)).2.1.toNat - i=((unp (s.load S.scan)).2.1.toNat - (i+1))+1 by omega,ia,if_neg hne,hm9];rfl,rfl,rfl⟩,by rw[←hbdI];exact hh.dp [1]⟩
      rintro _ _ ⟨r2,s2,hm2,rfl,rfl⟩
      obtain⟨hS2,hrv2,hsc2,htd2,hdn2,hb2,hbd2,hc2,hto2,hfr2,hms2⟩:=mg hSI hm2
      have hu2:=(jL huI hm2).1
      refine ad (BL (fun w hh=>by have h5:=Eo hh;rw[hbd2,hsc2] at h5;exact h5) (aS aa aa aa (dh runUnderlying3 runUnderlying25 aa (fQ (by omega))) .free aa (aT aa aa ?_)))
      refine aU aa (au call145 aa) (cF (fun Fr=>cA _ Fr _ _ _ _)) .free aa aa ?_ ?_
      rotate_left
      ·rintro _ _ ⟨s9,⟨hm9,rfl⟩,rfl⟩
       exact bi fun w hh=>⟨_,⟨s9,by rw[hstep,hinv,show(unp (s.load S.scan)).2.1.toNat - i=((unp (s.load S.scan)).2.1.toNat - (i+1))+1 by omega,ia,if_neg hne,hm2];simp only[aR];rw[hm9];rfl,rfl,rfl⟩,by rw[←hbdI];exact(hh.dp [0,1])⟩
      rintro _ _ ⟨s3,⟨e3,hm3,rfl⟩,rfl⟩
      refine ad (c7 aa (cy (am [62,61,3,2,0] rfl (ab (kPv (aN aa aa) aa (kPm aa aa (ad ?_)))))))
      exact fun a w st_=>⟨(i+1,r2.2,s3),⟨by first | omega | (simp only;omega),hS2,(cx hu2 (by omega) hm3).1,htd2.trans htdI,hdn2.trans hdI,hbd2.trans hbdI,hsc2.trans hscI0,by rw[hinv,show(unp (s.load S.scan)).2.1.toNat - i=((unp (s.load S.scan)).2.1.toNat - (i+1))+1 by omega,ia,if_neg hne,hm2];simp only[aR];rw[hm3];rfl⟩,by first | omega | (simp only;omega),st_.to (aE aa) (fun hh=>(by first | exact(hh.pk [2]) | (simp only[hbd2];exact(hh.pk [2]))))⟩
     ·have hne:sI.load (SI.scan+1+i)=0:=by simpa using h78
      refine ar (ab (kPv (aN aa aa) aa (kPm aa aa (ad ?_))))
      exact fun a w st_=>⟨(i+1,SI,sI),⟨by first | omega | (simp only;omega),hSI,huI,htdI,hdI,hbdI,hscI0,by rw[hinv,show(unp (s.load S.scan)).2.1.toNat - i=((unp (s.load S.scan)).2.1.toNat - (i+1))+1 by omega,ia,if_pos hne];rfl⟩,by first | omega | (simp only;omega),st_.to (aE aa) (fun hh=>(by first | exact(hh.pk [1]) | (simp only[hbd2];exact(hh.pk [1]))))⟩
    ·have hi:¬ (i:Int)<(unp (s.load S.scan)).2.1:=by simpa using h63
     have hscI:=hSI.scan
     refine bF (aP [1] (jF fun rsv3 tsv3 mw3 hrsv3 htsv3=>(cQ 9 Tryz.mixed (by kernel_rfl) (by kernel_rfl) ?_)))
     refine kQm aa aa (kQv (aI aa) aa (kQv (aD (m:=_) i8 aa aa) aa (kQv (ah isAgg3 aa aa) aa (kQv (ag isAgg102 sizeOf102 aa aa) aa ?_))))
     refine bG aa (au call139 aa) (eH _ _ _ _ (by omega)) .free aa ?_
     refine kQv (aN aa aa) aa (kQv (aI aa) aa (kQv (aD (m:=_) i8 aa aa) aa (bY (kPs (aO sizeOf3 aa aa aa aa) aa (ad (am [2,0] rfl (ac (ab (kPf im isAgg4 aa aa aa aa (kPa aa aa (ad ?_)))))))))))
     refine az ?_
     exact aq results166 aa (fun w hh=>⟨_,⟨_,_,by rw[hstep,hinv,show(unp (s.load S.scan)).2.1.toNat - i=0 by omega];rfl,by rw[hdI,hdone],rfl⟩,by rw[←hbdI];exact cC (S:={SI with scan:=SI.scan+((unp (s.load S.scan)).1+1)}) hrsv3 htsv3 (hh.dp [4])⟩)
   ·have hlt:¬ S.scan<S.free:=by simpa using h37
    refine aM (fun w hh=>cC hrsv htsv hh) (ab (kPm aa aa ?_))
    refine aU aa (au call203 aa) (AJ B _ x S hS s hu) .free aa aa ?_ ?_
    rotate_left
    ·rintro _ _ ⟨s9,hm9,rfl,rfl⟩
     exact bi fun w hh=>⟨_,⟨s9,by unfold bE.step;rw[if_neg (by rw[hdone];decide)];simp only[htd];rw[if_neg hlt,hm9];rfl,rfl,rfl⟩,hh⟩
    rintro _ _ ⟨r1,s1,hm1,rfl,rfl⟩
    refine jF fun rsv4 tsv4 mw4 hrsv4 htsv4=>(ad (ac (ab (kPf im isAgg4 aa aa aa aa (kPa aa aa (ad (am [2] rfl (az ?_))))))))
    exact aq results166 aa (fun w hh=>⟨_,⟨(true,{S with done:=true}),s1,by unfold bE.step;rw[if_neg (by rw[hdone];decide)];simp only[htd];rw[if_neg hlt,hm1];rfl,rfl,rfl⟩,cC (S:={S with done:=true}) hrsv4 htsv4 hh⟩)
theorem ou:∀ (f:Nat) (S S':bE) (s s':Dev),fp S→U64 s→u7 f S s= .ok S' s'→fp S'∧U64 s'∧S'.b=S.b∧S'.bd=S.bd∧S'.c=S.c∧S'.to_=S.to_
 | 0,S,S',s,s',h,hu,e=>by cases e;exact⟨h,hu,rfl,rfl,rfl,rfl⟩
 | f+1,S,S',s,s',h,hu,e=>by
   rw[iW] at e
   obtain⟨r,s1,e1,e⟩:=aK e
   obtain⟨h1,u1,g1,g2,g3,g4,_⟩:=rn h hu e1
   split at e
   ·cases e;exact⟨h1,u1,g1,g2,g3,g4⟩
   ·obtain⟨k1,k2,k3,k4,k5,k6⟩:=ou f _ _ _ _ h1 u1 e
    exact⟨k1,k2,k3.trans g1,k4.trans g2,k5.trans g3,k6.trans g4⟩
theorem pT{α β:Type}{f:α→β}{l:List α}{k:Nat}(hk:k<l.length):(l.take (k+1)).map f=(l.take k).map f++[f l[k]]:=by
 rw[List.take_succ_eq_append_getElem hk,List.map_append];rfl
theorem lQ{bd:Nat}{c:Cfg}{b:Blk}{ws:List Int}(hc:bA c)(hb:gh c b)(hl:b.rts.length≤16)(hr:∀ v∈b.rts,0≤v∧v<18446744073709551616)(hw:∀ v∈ws,0≤v∧v<18446744073709551616):fp (eA bd c b ws):=by
 have h1:=hb.act
 have h2:=iF hc (k:=1 - b.act) (by omega)
 have h3:=hc.s1
 have h4:0≤c.frm (1 - b.act)∧c.frm (1 - b.act)≤20000:=by omega
 exact⟨hc,hb,hl,h4,⟨Int.le_refl _,by unfold eA;simp only;omega⟩,⟨Int.le_refl _,by simp[eA]⟩,List.nodup_nil,fun _ h=>(by cases h),fun _ h=>(by cases h),hw,hr⟩
theorem xd(B:World)(Fr:List HP)(x:Nat)(S:bE)(hS:fp S)(s:Dev)(hu:U64 s):
 ∀ w,Holds B (eY x S::aB S.bd s::Fr) w→Calls Tryz.prog 135 [ptr x].toArray w (Ret B (fun rv H'=>∃ r s',S.run s= .ok r s'∧rv= .tuple #[]∧H'=eY x r::aB S.bd s'::Fr) (fun c H'=>∃ s',S.run s= .off s'∧c=dV∧H'=aB S.bd s'::Fr)):=by
 refine an func135 aa ntmps135 aa (aG (cK (ι:=Nat×bE×Dev) [0] (fun (n,SI,sI)=>(SI.meas<n)∧(fp SI)∧(U64 sI)∧(SI.bd=S.bd)∧(u7 (S.meas+1) S s=u7 n SI sI)) (fun (n,SI,sI)=>[]) (fun (n,SI,sI)=>eY x SI::aB SI.bd sI::Fr) (fun (n,SI,sI)=>n) (S.meas+1,S,s) (⟨Nat.lt_succ_self _,hS,hu,rfl,rfl⟩) (fun a w st=>st.to trivial (fun hh=>hh)) ?_))
 rintro⟨n,SI,sI⟩ ⟨hn,hSI,huI,hbdI,hinv⟩
 try simp only at hn hSI huI hbdI hinv ⊢
 refine cu (σ':=[(0,_)]) ⟨rfl,trivial⟩ (ac (ac (ab (kPm aa aa ?_))))
 refine aU aa (au call166 aa) (pz B _ x SI hSI sI huI) .free aa aa ?_ ?_
 rotate_left
 ·rintro _ _ ⟨s9,hm9,rfl,rfl⟩
  exact bi fun w hh=>⟨_,⟨s9,by unfold bE.run;rw[hinv,show n=n - 1+1 by omega,iW,hm9];rfl,rfl,rfl⟩,by rw[←hbdI];exact hh⟩
 rintro _ _ ⟨r1,s1,hm1,rfl,rfl⟩
 obtain⟨hS1,hu1,hb1,hbd1,hc1,hto1,hr1,hms1⟩:=rn hSI huI hm1
 refine kPv (bz aa) aa (ad ?_)
 refine a8 aa (fun h4=> ?_) (fun h4=> ?_)
 ·have hg:r1.1=false:=by simpa using h4
  refine ar (aG (ar ?_))
  exact fun a w st_=>⟨(n - 1,r1.2,s1),⟨by have:=hms1 hg;first | omega | (simp only;omega),hS1,hu1,hbd1.trans hbdI,by rw[hinv,show n=n - 1+1 by omega,iW,hm1];simp only[aR];rw[if_neg (by rw[hg];decide)];rfl⟩,by first | omega | (simp only;omega),st_.to ⟨rfl,trivial⟩ (fun hh=>(by simp only[hbd1];exact hh))⟩
 ·have hg:r1.1=true:=by simpa using h4
  refine bF ?_
  exact cI results135 (fun w hh=>⟨_,⟨_,_,by unfold bE.run;rw[hinv,show n=n - 1+1 by omega,iW,hm1];simp only[aR];rw[if_pos hg],rfl,rfl⟩,by rw[←hbdI];exact hh⟩)
theorem mI(B:World)(Fr:List HP)(x:Nat)(S:bE)(hS:fp S):
 ∀ w,Holds B (eY x S::Fr) w→Calls Tryz.prog 167 [ptr x].toArray w (Ret B (fun rv H'=>∃ sv,aL sv=true∧rv=ly S.block sv∧H'=cS 0 (sv,S.block.rts)::eY x S::Fr) (fun _ _=>False)):=by
 refine an func167 aa ntmps167 aa ?_
 have hfb:=hS.fb
 have hfr:=hS.free
 have hto:=hS.to_
 have hba:=hS.b.act
 have hrl:=hS.rl
 refine ac (ab (kPb (aC zeroValue151 aa) aa fun b2=>(ad (ac (aP [1] (jF fun rsv tsv mw hrsv htsv=> ?_))))))
 refine iE (.fin [0,1,2,3,4,5,6,7,8,9,10,11,12,13,14,15,16,17]) [16,17] [0,1,2,3,4,5,6,7,8,9,10,11,12,13,14,15] [16] [row x (eW S rsv tsv mw) 247] [2,0] (G:=Nat) (fun b3=>[(3,ptr b3)]) (fun b3=>row b3 [i64 (1 - S.b.act),i64 (S.free - S.to_),.slice none 0 0] 151::row x (eW S rsv tsv mw) 247::cS 0 (rsv,S.b.rts)::cS 0 (tsv,S.todo)::bx .u64 i64 mw S.went::row b2 [i64 0,i64 0,.slice none 0 0] 151::Fr) Tryz.mixed (by kernel_rfl) ?_ ?_
 ·skip
  refine gR (aj aa aa aa (ak aa) .free aa (aj aa aa aa (aI aa) .free aa (aj aa aa aa (aD (m:=_) l5 aa aa) .free aa (aj aa aa aa (aD (m:=_) iq aa aa) .free aa (aj aa aa aa (ah isAgg3 aa aa) .free aa (aj aa aa aa (fu aa aa) .free aa (aj aa aa aa (ak aa) .free aa (aj aa aa aa (aI aa) .free aa (aj aa aa aa (aD (m:=_) io aa aa) .free aa (aj aa aa aa (ah isAgg3 aa aa) .free aa (aj aa aa aa (ak aa) .free aa ?_)))))))))))
  refine aj aa aa aa (aI aa) .free aa (aj aa aa aa (aD (m:=_) po aa aa) .free aa (aj aa aa aa (ah isAgg3 aa aa) .free aa (aj aa aa aa (fu aa aa) .free aa (aj aa aa aa (aQ aa (ng _ _ aa aa)) .free aa (aT aa aa (kPb (aC zeroValue151 aa) aa fun b3=>(ad (cN (aT aa aa ?_)))))))))
  refine kPs (ax (vs:=_) sizeOf151 aa aa aa (by first | rfl | exact eh (by assumption)) rfl) rfl ?_;refine ad ?_;refine c7 aa ?_;refine cy ?_
  exact fun a w st_=>⟨b3,st_.to (aE aa) (fun hh=>hh)⟩
 intro b3
 refine cu (σ':=[(3,ptr b3),(2,_),(0,_)]) (aE aa) (ac (ac (aP [2] (cE fun qr cr hqr hqi=> ?_))))
 subst hqr
 refine aP [1,1,0,0,0,0] (aM (fun w hh=>eQ (T:=25) (enc:=w64) hh) (ab (kPm aa aa (kPv (aI aa) aa (kPv (aD (m:=_) l5 aa aa) aa (kPl fh isAgg30 aa aa aa aa (kPv (bD aa runUnderlying30 ⟨_,rfl⟩ rfl) aa (kPm aa aa (ad (aG (cK (ι:=Nat×Value) [27,26,3,2,0] (fun (k,bv)=>(k≤S.b.rts.length)∧(aL bv=true)) (fun (k,bv)=>[(28,i64 k)]) (fun (k,bv)=>cS 0 (bv,(S.b.rts.take k).map (fun w=>(bK S.went w).getD 0))::row b3 [i64 (1 - S.b.act),i64 (S.free - S.to_),bv] 151::row x (eW S (.slice qr S.b.rts.length cr) tsv mw) 247::cS 0 (.slice qr S.b.rts.length cr,S.b.rts)::cS 0 (tsv,S.todo)::bx .u64 i64 mw S.went::row b2 [i64 0,i64 0,.slice none 0 0] 151::Fr) (fun (k,bv)=>S.b.rts.length - k) (0,.slice none 0 0) (⟨Nat.zero_le _,rfl⟩) (fun a w st=>st.to ⟨rfl,trivial⟩ (fun hh=>hh)) ?_)))))))))))
 rintro⟨k,bv⟩ ⟨hk0,hbv⟩
 try simp only at hk0 hbv ⊢
 refine cu (σ':=[(28,i64 k),(27,_),(26,_),(3,_),(2,_),(0,_)]) (aE aa) (ac (ab (kPv (ao aa aa aa) aa (ad (ac ?_)))))
 refine a8 aa (fun h29=> ?_) (fun h29=> ?_)
 ·have hk:k<S.b.rts.length:=by simp at h29;omega
  obtain⟨bq,oq,rfl⟩:=hqi k hk
  have hvb:=hS.vb S.b.rts[k]
  refine ar (ac (aG (ac (ab (kPv (cg runUnderlying30 sizeOf25 aa aa (by omega) (by omega)) aa ?_)))))
  refine kPv (bP (v:=w64 S.b.rts[k]) isAgg25 (cP 3 aa) aa (by rw[Int.toNat_natCast,List.getElem?_map,List.getElem?_eq_getElem hk];rfl)) aa ?_
  refine kPa aa aa (ad (cW [0,1,2,3,4,5,6,7,8,9,10,11,12] [9,10,12] [0,1] [9] [row b3 [i64 (1 - S.b.act),i64 (S.free - S.to_),bv] 151,row x (eW S (.slice (some ⟨bq,oq,none⟩) S.b.rts.length cr) tsv mw) 247,bx .u64 i64 mw S.went] Tryz.mixed (by kernel_rfl) ?_))
  refine aj aa aa aa (aD (m:=_) fh aa aa) .free aa (aj aa aa aa (ah isAgg30 aa aa) .free aa (aS aa aa aa (ak aa) .free aa (aS aa aa aa (aI aa) .free aa (aS aa aa aa (aD (m:=_) l3 aa aa) .free aa (aS aa aa aa (ah isAgg245 aa aa) .free aa (aS aa aa aa (ak aa) .free aa (aS aa aa aa ((lr runUnderlying245 runUnderlying25 zeroValue3 aa aa).eq (oJ _)) .free aa (aS aa aa aa (dh runUnderlying3 runUnderlying25 aa (fQ (by omega))) .free aa (aT aa aa (kPb (f9 runUnderlying30 sizeOf25 zeroValue25 aa aa aa) aa fun b41=>(aP [1,0] ?_)))))))))))
  refine ad (cN (aT aa aa (cJ aa (eu aa aa runUnderlying30 runUnderlying30 ⟨_,rfl⟩ sizeOf25 zeroValue25 aa (fun _=>rfl) hO aa aa (by simp;omega)) .free aa aa ?_)))
  rintro bv2 _ ⟨hbv2,rfl⟩
  refine ad (c7 aa (aS aa aa aa (aD (m:=_) fh aa aa) .free aa (aT aa aa ?_)))
  refine kPs (aO sizeOf30 aa aa (by first | rfl | assumption) rfl) rfl ?_;refine ad ?_;refine c7 aa ?_;refine cy ?_;refine am [28,27,26,3,2,0] rfl ?_;refine ab ?_;refine kPv (aN aa aa) aa ?_;refine kPm aa aa ?_;refine ad ?_
  exact fun a w st_=>⟨(k+1,bv2),⟨by first | omega | (simp only;omega),hbv2⟩,by first | omega | (simp only;omega),st_.to (aE aa) (fun hh=>(by simp only[pT hk];exact hh))⟩
 ·have hk:¬ k<S.b.rts.length:=by simp at h29;omega
  obtain rfl:k=S.b.rts.length:=by omega
  rw[List.take_length]
  refine bF (ac (ab (kPv (ag isAgg151 sizeOf151 aa aa) aa ?_)))
  refine kPs (ax (vs:=_) sizeOf151 aa aa aa (by first | rfl | exact eh (by assumption)) rfl) rfl ?_;refine ad ?_;refine am [2] rfl ?_;refine az ?_
  exact qh results167 (.cellA aa isAgg151 sizeOf151 aa aa) (fun w hh=>⟨_,⟨bv,hbv,rfl,rfl⟩,(cC (S:=S) hrsv htsv ((hh.dp [1,5]).pk [1,1,1,1])).pk [1]⟩)
theorem uD(B:World)(Fr:List HP)(cap:Nat):
 ∀ w,Holds B Fr w→Calls Tryz.prog 178 [.slice none 0 cap].toArray w (aZ B Fr (.slice none 0 0)):=by
 refine an func178 aa ntmps178 aa (ac (ab (kPa aa aa (ad (ac (ac (ab (kPm aa aa (kPv (nG runUnderlying30 aa aa aa) aa (ad (o7 aa (rfl) ?_)))))))))))
 refine ac (ab (kPa aa aa (ad (az ?_))))
 exact aq results178 aa (fun w hh=>⟨rfl,hh⟩)
theorem nb(B:World)(Fr:List HP)(q:Option Addr)(cap:Nat)(xs:List Int)(hn:xs.length≤1000000)(hq:q=none→xs=[])(hr:SlR B Fr (.slice q xs.length cap) (xs.map w64)):∀ w,Holds B Fr w→Calls Tryz.prog 178 [.slice q xs.length cap].toArray w (Ret B (fun rv H'=>aL rv=true∧H'=cS 0 (rv,xs)::Fr) (fun _ _=>False)):=by
 intro w hw
 cases q with
 | none=>
   have:=hq rfl
   subst this
   exact(uD B Fr cap w hw).mono fun e w' h=>by obtain⟨rfl,h⟩:=h;exact⟨_,⟨rfl,rfl⟩,eQ h⟩
 | some a=>
   refine(lv B Fr (some a) xs.length cap (xs.map w64) (by simp) (by simpa using hn) (by rw[List.all_eq_true];intro v hv;obtain⟨x,_,rfl⟩:=List.mem_map.1 hv;rfl) hr w hw).mono fun e w' h=> ?_
   cases e with
   | returned v=>
     obtain⟨H',⟨bn,rest,rfl,rfl⟩,h⟩:=h
     exact⟨_,⟨rfl,rfl⟩,gX aa aa h⟩
   | panicked c=>obtain⟨_,h,_⟩:=h;exact h.elim
   | outgrown=>exact h.elim
theorem sm(B:World)(Fr:List HP)(bd:Nat)(c:Cfg)(hc:bA c)(b:Blk)(hb:gh c b)(sv:Value)(hsv:aL sv=true)(q:Option Addr)(cap:Nat)(ws:List Int)(hwn:ws.length≤1000000)(hwq:q=none→ws=[])(hwl:SlR B (cS 0 (sv,b.rts)::Fr) (.slice q ws.length cap) (ws.map w64)):
 ∀ w,Holds B (cS 0 (sv,b.rts)::Fr) w→Calls Tryz.prog 133 [ptr bd,dY c,ly b sv,.slice q ws.length cap].toArray w (Ret B (fun rv H'=>∃ x,rv=ptr x∧H'=eY x (eA bd c b ws)::Fr) (fun _ _=>False)):=by
 refine an func133 aa ntmps133 aa ?_
 have hba:=hb.act
 refine ac (ab (kPb (aX aa) aa fun b5=>(kPb (aX aa) aa fun b6=>(kPa aa aa (ad (ac (ab (kPv (ag isAgg134 sizeOf134 aa aa) aa ?_))))))))
 refine kPl iq isAgg3 aa aa aa aa (kPv (fu aa aa) aa (aw aa (au call119 aa) (jG _ _ c hc _ (by have:=hb.act;omega) (by have:=hb.act;omega)) .free aa aa ?_))
 refine kPa aa aa (ad (am [9,8,6,5,0,3] rfl (ac (aP [1] ?_))))
 refine iE (.br [0,1,2,3,4,5,6] 7 (.fin [8,9,10,11]) 8 (.fin [7,9,10,11])) [7,8,10] [0,1,2,3,4,5,6] [7,8] [row b5 [i64 c.log,i64 c.roots,i64 c.space] 134,row b6 [i64 b.act,i64 b.used,sv] 151] [] (G:=Nat) (fun x=>[(8,ptr x)]) (fun x=>eY x (eA bd c b ws)::Fr) Tryz.mixed (by kernel_rfl) ?_ ?_
 ·skip
  refine sS (aj aa aa aa (ak aa) .free aa (aj aa aa aa (ag isAgg134 sizeOf134 aa aa) .free aa ?_))
  refine aj aa aa aa (ag isAgg151 sizeOf151 aa aa) .free aa ?_
  refine aj aa aa aa (ak aa) .free aa (aj aa aa aa (ak aa) .free aa (aj aa aa aa (ak aa) .free aa (aj aa aa aa (ak aa) .free aa (cy ?_))))
  refine mT aa aa ?_ ?_
  ·skip
   refine aH aa (au call178 aa) (nb _ _ q cap ws hwn hwq hwl.up) .free aa aa ?_
   rintro tsv _ ⟨htsv,rfl⟩
   refine ad (rj (gR (aT aa aa (kPb (dX .u64 i64) aa fun mw=>(ad (cN ?_))))))
   refine aS aa aa aa (aQ aa (fL _ _ _ _ _ _ _ _ _ _ _ _ (by first | rfl | assumption) rfl rfl rfl (by first | rfl | assumption) (by first | rfl | assumption))) .free rfl ?_;refine aT aa aa ?_;refine kPb (aX aa) aa fun b25=> ?_;refine ad ?_;refine c7 aa ?_
   refine aS aa aa aa (bu aa) .free aa (cy ?_)
   exact fun a w st_=>⟨b25,st_.to ⟨rfl,trivial⟩ (fun hh=>(cC (S:=eA bd c b ws) hsv htsv ((hh.dp [3,3]).pk [0,2,1])))⟩
  ·skip
   refine kPb (dX .u64 i64) aa fun mw=>(ad (rj (gR (aT aa aa (aH aa (au call178 aa) (nb _ _ q cap ws hwn hwq hwl.up) .free aa aa ?_)))))
   rintro tsv _ ⟨htsv,rfl⟩
   refine ad (cN ?_)
   refine aS aa aa aa (aQ aa (fL _ _ _ _ _ _ _ _ _ _ _ _ (by first | rfl | assumption) rfl rfl rfl (by first | rfl | assumption) (by first | rfl | assumption))) .free rfl ?_;refine aT aa aa ?_;refine kPb (aX aa) aa fun b25=> ?_;refine ad ?_;refine c7 aa ?_;refine aS aa aa aa (bu aa) .free aa ?_;refine cy ?_
   exact fun a w st_=>⟨b25,st_.to ⟨rfl,trivial⟩ (fun hh=>(cC (S:=eA bd c b ws) hsv htsv ((hh.dp [3,3]).pk [0,2])))⟩
 intro x
 refine cu (σ':=[(8,ptr x)]) ⟨rfl,trivial⟩ (az ?_)
 exact aq results133 aa (fun w hh=>⟨_,⟨_,rfl,rfl⟩,hh⟩)
def vB:List Value:=zW.flatMap fun p=>[str p.1,i64 p.2]
theorem mE:∀ k,k<18→(vB.drop (k*2)).take 2=[str (fw k),i64 (fm k)]:=by
 intro k hk
 obtain rfl | rfl | rfl | rfl | rfl | rfl | rfl | rfl | rfl | rfl | rfl | rfl | rfl | rfl | rfl | rfl | rfl | rfl:k=0∨k=1∨k=2∨k=3∨k=4∨k=5∨k=6∨k=7∨k=8∨k=9∨k=10∨k=11∨k=12∨k=13∨k=14∨k=15∨k=16∨k=17:=by omega
 all_goals rfl
def FG(B:World):Prop:=iR B (some ⟨1,0,none⟩) 1 36 (fun _=>vB)
section
variable {B:World} {σ:Env} {H:List HP} {P:Program} {d:Option Tmp} {ty:TypeId} {p:String} {af:Array Edge} {g:Option (Nat×Bool)}
theorem B6{t e m len:Nat}{x y:Operand}{k:IntKind}{i:Int}{cs c:List Value}(ht:∀ w,(underlying t).run P w= .ok (.array len e) w)(ha:∀ w,(isAgg e).run P w= .ok true w)(hs:∀ w,(sizeOf e).run P w= .ok m w)(hx:evO σ x=some (.agg cs.toArray))(hy:evO σ y=some (.int k i))(h0:0≤i∧i<len)(hc:(cs.drop (i.toNat*m)).take m=c):
 Evs P B σ H ⟨d,.index t x y,ty,p,af,g⟩ (.agg c.toArray):=by
 subst hc
 intro a w kn _
 simp only[execOp,kn.eval hx,kn.eval hy]
 simp[Instr.index,asIntOf,ht,h0.1,h0.2,part,ha,hs,List.extract_eq_take_drop]
theorem Aq{t b m:Nat}{x:Operand}{cs:List Value}(ht:∀ w,(isAgg t).run P w= .ok true w)(hs:∀ w,(sizeOf t).run P w= .ok m w)[cM H B](hr:iR B (some ⟨b,0,none⟩) 1 m (fun _=>cs))(hx:evO σ x=some (.pointer (some ⟨b,0,none⟩))):
 Evs P B σ H ⟨d,.load t x,ty,p,af,g⟩ (.agg cs.toArray):=
 gK (i:=0) (k:=1) (cap:=1) ht hs (SlN.arg hr) (by rw[hx,Nat.zero_mul]) rfl
def isE:Value→Bool
 | .nilIface=>false
 | _=>true
theorem w5{x:Operand}{t u:TypeId}{ms:Array (String×TypeId)}{v:Value}(ht:∀ w,(underlying t).run P w= .ok (.interface ms) w)(hx:evO σ x=some v)(hv:v= .nilIface∨∃ u x,v= .iface u x):
 Evs P B σ H ⟨d,.binOp .neq t x (.const .nilIface) u,ty,p,af,g⟩ (.bool (isE v)):=(ma ht hx hv).eq (by rcases hv with rfl | ⟨_,_,rfl⟩<;>rfl)
theorem DB{t e b off n cap:Nat}{x lo:Operand}{kk:IntKind}(ht:∀ w,(underlying t).run P w= .ok (.slice e) w)(hs:∀ w,(sizeOf e).run P w= .ok 1 w)(hx:evO σ x=some (.slice (some ⟨b,off,none⟩) n cap))(hl:evO σ lo=some (.int kk 1))(h1:1≤n)(h2:n≤cap):
 Evs P B σ H ⟨d,.slice t x (some lo) none none,ty,p,af,g⟩ (.slice (some ⟨b,if cap=1 then off else off+1,none⟩) (n - 1) (cap - 1)):=by
 by_cases hc:cap=1
 ·subst hc
  obtain rfl:n=1:=by omega
  rw[if_pos rfl]
  exact jI ht hs hx hl
 ·rw[if_neg hc]
  exact kt ht hs hx (.yesi hl aa) .no h1 h2 (.inl (by omega)) (by rw[Nat.one_mul])
theorem yO{q:Option Addr}{T cap:Nat}{l:List (List UInt8)}(i:Nat)(e:H[i]? =some (ra T (.slice q l.length cap) l)):SlR B H (.slice q l.length cap) (l.map str):=by
 have h:=nX (B:=B) CZ i e
 rw[pi] at h
 refine⟨q,cap,by simp,fun w hw j hj=> ?_⟩
 rcases dI (hw.front i e) with ⟨h1,_,_⟩ | ⟨bd,pre,rest,k,_,h1,h2⟩
 ·rw[h1] at hj;exact absurd hj (Nat.not_lt_zero _)
 ·injection h1 with h1 _ _
  refine⟨bd,pre.length,h1,?_⟩
  have h3:=h2.cell 0 rfl (pre.length+j)
  rw[h3,pi,List.append_assoc,List.getElem?_append_right (by omega),Nat.add_sub_cancel_left,List.getElem?_append_left hj]
theorem BJ{n:Nat}{D:List Deferred}{K:Act→World→Prop}{T:Nat}{sv:Value}{l:List (List UInt8)}(h:∀ q cap,sv= .slice q l.length cap→l.length≤cap→(0<l.length→∃ b off,q=some ⟨b,off,none⟩)→GO B n D σ (ra T sv l::H) K):GO B n D σ (ra T sv l::H) K:=fun a w st=>by
 rcases dI st.holds with ⟨e1,e2,_⟩ | ⟨bd,pre,rest,k,_,e,_⟩
 ·exact h none 0 (by rw[e2,e1];rfl) (by rw[e1];exact Nat.le_refl _) (fun hi=>by rw[e1] at hi;exact absurd hi (Nat.not_lt_zero _)) a w st
 ·exact h _ _ e (by omega) (fun hi=>⟨_,_,rfl⟩) a w st
end
theorem oH(s:List UInt8)(t:List (List UInt8)):ie (s::t)=match num s with
 | none=>none
 | some n=>(ie t).map fun l=>(n:Int)::l:=rfl
theorem qp{ns:List Int}{s:List UInt8}{t:List (List UInt8)}(h:num s=none):(ie (s::t)).map (ns++ ·)=none:=by rw[oH,h];rfl
theorem zr{ns:List Int}{s:List UInt8}{t:List (List UInt8)}{u:Nat}(h:num s=some u):(ie (s::t)).map (ns++ ·)=(ie t).map ((ns++[(u:Int)])++ ·):=by
 rw[oH,h]
 simp only[Option.map_map]
 congr 1
 funext l
 simp
theorem xS{ws:List (List UInt8)}(h:kb (ws.getD 0 [])=none):cR ws=((0,[]),12):=by unfold cR;rw[h]
theorem xT{ws:List (List UInt8)}{k:Nat}(h:kb (ws.getD 0 [])=some (k,fm k))(hl:ws.length≠fm k+1):cR ws=((0,[]),13):=by unfold cR;rw[h];simp only[if_pos hl]
theorem tQ{ws:List (List UInt8)}{k:Nat}(h:kb (ws.getD 0 [])=some (k,fm k))(hl:ws.length=fm k+1)(hn:ie (ws.drop 1)=none):cR ws=((0,[]),13):=by
 unfold cR;rw[h];simp only[ne_eq,not_true,if_false,hl,hn]
theorem wE{ws:List (List UInt8)}{k:Nat}{ns:List Int}(h:kb (ws.getD 0 [])=some (k,fm k))(hl:ws.length=fm k+1)(hn:ie (ws.drop 1)=some ns):cR ws=((((k:Nat):Int),ns),0):=by
 unfold cR;rw[h];simp only[ne_eq,not_true,if_false,hl,hn]
theorem sT{ws:List (List UInt8)}{i:Nat}(h:i<ws.length):(ws.map str)[i]? =some (str (ws.getD i [])):=by
 simp[h,List.getD]
theorem mG{ws:List (List UInt8)}{i:Nat}(h:i<ws.length):ws.drop i=ws.getD i []::ws.drop (i+1):=by
 rw[List.drop_eq_getElem_cons h];simp[h,List.getD]
theorem zB(B:World)(Fr:List HP)[cM Fr B](gl:GL B)(fg:FG B)(ws:List (List UInt8))(h0:0<ws.length)(hwn:ws.length≤1000000)(hwl:∀ i,(ws.getD i []).length≤1000000)(b off cap:Nat)(hcap:ws.length≤cap)(hr:SlR B Fr (.slice (some ⟨b,off,none⟩) ws.length cap) (ws.map str)):
 ∀ w,Holds B Fr w→Calls Tryz.prog 28 [.slice (some ⟨b,off,none⟩) ws.length cap].toArray w (Ret B (fun v H'=>∃ sv,aL sv=true∧v= .tuple #[.agg #[i64 (cR ws).1.1,sv],i64 (cR ws).2]∧H'=cS 0 (sv,(cR ws).1.2)::Fr) (fun _ _=>False)):=by
 refine an func28 aa ntmps28 aa (ac (ab (kPb (aC zeroValue32 aa) aa fun b2=>(kPa aa aa (ad (ac (ac (ab (kPv (Aq isAgg62 sizeOf62 fg aa) aa (kPm aa aa (ad ?_)))))))))))
 refine aG (cK (ι:=Nat) [11,3,2,0] (fun k=>(k≤18)∧(kb (ws.getD 0 [])=kc (ws.getD 0 []) (18 - k) k)) (fun k=>[(12,i64 k)]) (fun k=>row b2 [i64 0,.slice none 0 0] 32::Fr) (fun k=>18 - k) (0) (⟨Nat.zero_le _,rfl⟩) (fun a w st=>st.to ⟨rfl,trivial⟩ (fun hh=>hh)) ?_)
 rintro k ⟨hk0,hko⟩
 try simp only at hk0 hko ⊢
 refine cu (σ':=[(12,i64 k),(11,_),(3,_),(2,_),(0,_)]) (aE aa) (ac (ab (kPv (ao aa aa aa) aa (ad (ac ?_)))))
 refine a8 aa (fun h13=> ?_) (fun h13=> ?_)
 ·have hk:k<18:=by simp at h13;omega
  have hfm:=wX k hk
  refine ar (ac (aG (ac (ab (kPm aa aa (kPv (B6 (c:=[str (fw k),i64 (fm k)]) runUnderlying62 isAgg61 sizeOf61 aa aa (by omega) (by rw[Int.toNat_natCast];exact mE k hk)) aa (kPb (aC zeroValue61 aa) aa fun b5=>(kPa aa aa ?_))))))))
  refine kPs (ax (vs:=_) sizeOf61 aa aa aa (by first | rfl | exact eh (by assumption)) rfl) rfl ?_;refine ad ?_;refine ac ?_;refine ac ?_;refine cV Tryz.mixed (by kernel_rfl) (by kernel_rfl) ?_;refine kQm aa aa ?_;refine kQv (cg runUnderlying50 sizeOf9 aa aa (by omega) (by omega)) aa ?_
  refine kQv (bP (v:=str (ws.getD 0 [])) isAgg9 hr.up aa (sT h0)) aa (kQv (aD (m:=_) w3 aa aa) aa (kQv (ah isAgg9 aa aa) aa (kQv (r5 aa aa aa) aa (bY (am [21,4,5,12,11,3,2,0] rfl ?_)))))
  refine a8 aa (fun h21=> ?_) (fun h21=> ?_)
  ·have hne:¬ fw k=ws.getD 0 []:=fun e=>by simp[e] at h21
   refine bF (ab (kPv (aN aa aa) aa (kPm aa aa (ad ?_))))
   exact fun a w st_=>⟨k+1,⟨by first | omega | (simp only;omega),by rw[hko,show 18 - k=18 - (k+1)+1 by omega,kc,if_neg hne]⟩,by first | omega | (simp only;omega),st_.to (aE aa) (fun hh=>(hh.dp [0]))⟩
  ·have heq:fw k=ws.getD 0 []:=by
    have h9:ws.getD 0 []=fw k:=by simpa using h21
    exact h9.symm
   have hkind:kb (ws.getD 0 [])=some (k,fm k):=by rw[hko,show 18 - k=17 - k+1 by omega,kc,if_pos heq]
   refine ar (ac (ac (ab (kPm aa aa (kPv (bD aa runUnderlying50 ⟨_,rfl⟩ rfl) aa (kPl B1 isAgg3 aa aa aa aa (kPv (aN aa aa) aa (kPv (ao aa aa aa) aa (ad (am [27,4,12,11,3,2,0] rfl ?_))))))))))
   refine a8 aa (fun h27=> ?_) (fun h27=> ?_)
   ·have hln:ws.length≠fm k+1:=by simp at h27;omega
    have hres:cR ws=((0,[]),13):=xT hkind hln
    refine ac (ab (kPv (aQ aa (sy)) aa ?_))
    refine kPs (ax (vs:=_) sizeOf32 aa aa aa (by first | rfl | exact eh (by assumption)) rfl) rfl ?_;refine kPa aa aa ?_;refine ad ?_;refine az ?_
    exact gj results28 (.cellA aa isAgg32 sizeOf32 aa aa) (.tmp aa) (fun w hh=>⟨_,⟨.slice none 0 0,rfl,by rw[hres];rfl,rfl⟩,by rw[hres];exact eQ ((hh.dp [0,0]))⟩)
   ·have hln:ws.length=fm k+1:=by simp at h27;omega
    refine ar (ac (ab (kPm aa aa (kPv (aQ aa (uI _ aa)) aa (kPb (aC zeroValue32 aa) aa fun b6=> ?_)))))
    refine kPs (ax (vs:=_) sizeOf32 aa aa aa (by first | rfl | exact eh (by assumption)) rfl) rfl ?_;refine ad ?_;refine ac ?_;refine ac ?_;refine aM (fun w hh=>eQ (T:=25) (enc:=w64) hh) ?_;refine ab ?_;refine kPm aa aa ?_
    refine kPv (DB runUnderlying50 sizeOf9 aa aa h0 hcap) aa (kPv (bD aa runUnderlying50 ⟨_,rfl⟩ rfl) aa (kPm aa aa (ad (aG (cK (ι:=Nat×List Int×Value) [33,32,6,12,11,3,2,0] (fun (i,ns,nv)=>(i≤ws.length - 1)∧(ie (ws.drop 1)=(ie (ws.drop (i+1))).map (ns++ ·))∧(ns.length=i)∧(aL nv=true)) (fun (i,ns,nv)=>[(34,i64 i)]) (fun (i,ns,nv)=>cS 0 (nv,ns)::row b6 [i64 k,nv] 32::row b5 [str (fw k),i64 (fm k)] 61::row b2 [i64 0,.slice none 0 0] 32::Fr) (fun (i,ns,nv)=>ws.length - i) (0,[],.slice none 0 0) (⟨Nat.zero_le _,by simp,rfl,rfl⟩) (fun a w st=>st.to ⟨rfl,trivial⟩ (fun hh=>hh)) ?_)))))
    rintro⟨i,ns,nv⟩ ⟨hi0,hns,hnl,hnv⟩
    try simp only at hi0 hns hnl hnv ⊢
    refine cu (σ':=[(34,i64 i),(33,_),(32,_),(6,_),(12,_),(11,_),(3,_),(2,_),(0,_)]) (aE aa) (ac (ab (kPv (ao aa aa aa) aa (ad (ac ?_)))))
    refine a8 aa (fun h35=> ?_) (fun h35=> ?_)
    ·have hi:i<ws.length - 1:=by simp at h35;omega
     refine ar (ac (aG (ac (ab (kPv ((cg runUnderlying50 sizeOf9 aa aa (by omega) (by omega)).eq (show _=Value.pointer (some ⟨b,off+(i+1),none⟩) by rw[if_neg (by omega),Int.toNat_natCast,Nat.add_assoc,Nat.add_comm 1])) aa (kPv (bP (v:=str (ws.getD (i+1) [])) isAgg9 hr.up aa (sT (by omega))) aa (kPa aa aa (ad (ac (ab (kPm aa aa ?_)))))))))))
     refine aH aa (au call55 aa) (zh gl (ws.getD (i+1) []) (hwl _)) .free aa aa ?_
     rintro _ _ ⟨rfl,n9,e9,rfl,hor⟩
     have hev:e9= .nilIface∨∃ u x,e9= .iface u x:=by
      rcases hor with ⟨u,_,_,h⟩ | ⟨_,t,x,h⟩
      ·exact .inl h
      ·exact .inr ⟨_,_,h⟩
     refine kPm aa aa (kPv (aA aa aa) aa (kPv (aA aa aa) aa (kPa aa aa (kPa aa aa (ad (am [10,9,8,34,33,32,6,12,11,3,2,0] rfl (ac (ac ?_))))))))
     rcases Bool.eq_false_or_eq_true ((isE e9)) with hs12 | hs12
     ·skip
      have hnum:num (ws.getD (i+1) [])=none:=by
       rcases hor with ⟨u,_,_,h⟩ | ⟨h,_⟩
       ·rw[h] at hs12;cases hs12
       ·exact Bu h
      have hres:cR ws=((0,[]),13):=tQ hkind hln (by rw[hns,mG (by omega)];exact qp hnum)
      refine ab (kPm aa aa (kPv (w5 runUnderlying76 aa hev) aa (kPm aa aa (ap aa (.on aa aa (ai hs12)) aa (ap aa (.on aa aa (ai hs12)) aa (ap aa (.on aa aa (ai hs12)) aa (ap aa (.on aa aa (ai hs12)) aa (kPv (ay aa hs12 aa) aa (ad (am [50,9,34,33,32,6,12,11,3,2,0] rfl (o7 aa (rfl) ?_)))))))))))
      refine ac (ab (kPv (aQ aa (sy)) aa ?_))
      refine kPs (ax (vs:=_) sizeOf32 aa aa aa (by first | rfl | exact eh (by assumption)) rfl) rfl ?_;refine kPa aa aa ?_;refine ad ?_;refine az ?_
      exact gj results28 (.cellA aa isAgg32 sizeOf32 aa aa) (.tmp aa) (fun w hh=>⟨_,⟨.slice none 0 0,rfl,by rw[hres];rfl,rfl⟩,by rw[hres];exact eQ ((hh.dp [0,0,0,0]))⟩)
     ·skip
      obtain⟨u,hpu,rfl,rfl⟩:∃ u:Nat,Lib.parseUintB 64 (ws.getD (i+1) [])= .ok u∧n9=u∧e9= .nilIface:=by
       rcases hor with h | ⟨_,t,x,h⟩
       ·exact h
       ·rw[h] at hs12;cases hs12
      clear hor
      refine ab (kPm aa aa (kPv (w5 runUnderlying76 aa hev) aa (kPm aa aa (al aa (ak aa) (.on aa aa (ae hs12)) aa aa (aw aa (au call21 aa) (ub _ _ gl u (zj hpu)) (.on aa aa (ae hs12)) aa aa ?_)))))
      refine al aa (ak aa) (.on aa aa (ae hs12)) aa aa (al aa (r5 aa aa aa) (.on aa aa (ae hs12)) aa aa (kPv (aJ aa hs12 aa) aa (ad (am [50,9,34,33,32,6,12,11,3,2,0] rfl ?_))))
      refine a8 aa (fun h50=> ?_) (fun h50=> ?_)
      ·have hnum:num (ws.getD (i+1) [])=none:=by rw[zs hpu,if_neg (by simpa using h50)]
       have hres:cR ws=((0,[]),13):=tQ hkind hln (by rw[hns,mG (by omega)];exact qp hnum)
       refine ac (ab (kPv (aQ aa (sy)) aa ?_))
       refine kPs (ax (vs:=_) sizeOf32 aa aa aa (by first | rfl | exact eh (by assumption)) rfl) rfl ?_;refine kPa aa aa ?_;refine ad ?_;refine az ?_
       exact gj results28 (.cellA aa isAgg32 sizeOf32 aa aa) (.tmp aa) (fun w hh=>⟨_,⟨.slice none 0 0,rfl,by rw[hres];rfl,rfl⟩,by rw[hres];exact eQ ((hh.dp [0,0,0,0]))⟩)
      ·have hnum:num (ws.getD (i+1) [])=some u:=by rw[zs hpu,if_pos (by simpa using h50)]
       refine ar (ab (kPl iG isAgg30 aa aa aa aa (kPm aa aa (kPb (f9 runUnderlying30 sizeOf25 zeroValue25 aa aa aa) aa fun b55=>(aP [1,0] (cJ aa (eu aa aa runUnderlying30 runUnderlying30 ⟨_,rfl⟩ sizeOf25 zeroValue25 aa (fun _=>rfl) hO aa aa (by omega)) .free aa aa ?_))))))
       rintro nv9 _ ⟨hnv9,rfl⟩
       refine kPv (aD (m:=_) iG aa aa) aa ?_
       refine kPs (aO sizeOf30 aa aa (by first | rfl | assumption) rfl) rfl ?_;refine ad ?_;refine am [34,33,32,6,12,11,3,2,0] rfl ?_;refine ab ?_;refine kPv (aN aa aa) aa ?_;refine kPm aa aa ?_;refine ad ?_
       exact fun a w st_=>⟨(i+1,ns++[(u:Int)],nv9),⟨by first | omega | (simp only;omega),by rw[hns,mG (by omega),zr hnum],by simp[hnl],hnv9⟩,by first | omega | (simp only;omega),st_.to (aE aa) (fun hh=>hh)⟩
    ·have hi:i=ws.length - 1:=by simp at h35;omega
     have hres:cR ws=((((k:Nat):Int),ns),0):=wE hkind hln (by rw[hns,List.drop_eq_nil_of_le (by omega)];simp[ie])
     refine bF (ac (ab (kPv (ag isAgg32 sizeOf32 aa aa) aa ?_)))
     refine kPs (ax (vs:=[i64 k,nv]) sizeOf32 aa aa aa (show([i64 k,nv]:List Value).all aL=true by simp only[List.all_cons,List.all_nil,hnv];rfl) aa) aa (kPa aa aa (ad (az ?_)))
     exact gj results28 (.cellA aa isAgg32 sizeOf32 aa aa) (.tmp aa) (fun w hh=>⟨_,⟨nv,hnv,by rw[hres];rfl,by rw[hres]⟩,(hh.dp [1,1,1])⟩)
 ·have hk:k=18:=by simp at h13;omega
  subst hk
  have hres:cR ws=((0,[]),12):=xS hko
  refine bF (ac (ab (kPv (aQ aa (sy)) aa ?_)))
  refine kPs (ax (vs:=_) sizeOf32 aa aa aa (by first | rfl | exact eh (by assumption)) rfl) rfl ?_;refine kPa aa aa ?_;refine ad ?_;refine az ?_
  exact gj results28 (.cellA aa isAgg32 sizeOf32 aa aa) (.tmp aa) (fun w hh=>⟨_,⟨.slice none 0 0,rfl,by rw[hres];rfl,rfl⟩,by rw[hres];exact eQ ((hh.dp [0]))⟩)
structure CmR(B:World)(H:List HP)(q:Option Addr)(cap:Nat)(rs:List CR):Prop where
 sl:SlN B H (.slice q rs.length cap) 2 (rs.map crE)
 nm:∀ t∈rs,SlR B H (slv t.2.1) (t.2.2.map w64)∧t.2.1.2.1=t.2.2.length∧t.2.2.length≤1000000
theorem CmR.up{B:World}{H Fr:List HP}{q:Option Addr}{cap:Nat}{rs:List CR}[gE H Fr](h:CmR B Fr q cap rs):CmR B H q cap rs:=
 ⟨h.sl.up,fun t ht=>⟨(h.nm t ht).1.up,(h.nm t ht).2⟩⟩
theorem tc{B:World}{H:List HP}{q:Option Addr}{n cap:Nat}{cs:List Value}(h:SlR B H (.slice q n cap) cs){w:World}(hw:Holds B H w):∀ i,i<cs.length→∃ b off,q=some ⟨b,off,none⟩:=fun i hi=>by
 obtain⟨q',c',e1,e2⟩:=h.ex
 injection e1 with e3 _ _
 subst e3
 obtain⟨b,off,e,_⟩:=e2 w hw i hi
 exact⟨b,off,e⟩
theorem DN{t u:CR}:((t.1==u.1)&&decide (t.2.2=u.2.2))=decide (crC t=crC u):=by
 rw[Bool.eq_iff_iff]
 simp[crC,Prod.ext_iff]
abbrev crV(t:CR):Value:= .agg #[i64 t.1,slv t.2.1]
theorem Em{B:World}{H Fr:List HP}[gE H Fr]{t u:CR}(hx:SlR B Fr (slv t.2.1) (t.2.2.map w64)∧t.2.1.2.1=t.2.2.length∧t.2.2.length≤1000000)(hy:SlR B Fr (slv u.2.1) (u.2.2.map w64)∧u.2.1.2.1=u.2.2.length∧u.2.2.length≤1000000):
 ∀ w,Holds B H w→Calls Tryz.prog 25 [slv t.2.1,slv u.2.1].toArray w (aZ B H (.bool (decide (t.2.2=u.2.2)))):=fun w hw=>by
 obtain⟨h1,h2,h3⟩:=hx
 obtain⟨g1,g2,g3⟩:=hy
 obtain⟨k1,⟨q1,n1,c1⟩,xs⟩:=t
 obtain⟨k2,⟨q2,n2,c2⟩,ys⟩:=u
 simp only at h2 g2
 subst h2;subst g2
 have h4:SlR B H (.slice q1 xs.length c1) (xs.map w64):=h1.up
 have g4:SlR B H (.slice q2 ys.length c2) (ys.map w64):=g1.up
 exact uo B H q1 q2 c1 c2 xs ys h3 g3 (fun i hi=>tc h4 hw i (by simpa using hi)) (fun i hi=>tc g4 hw i (by simpa using hi)) h4 g4 w hw
theorem za(B:World)(Fr:List HP)(t u:CR)(hx:SlR B Fr (slv t.2.1) (t.2.2.map w64)∧t.2.1.2.1=t.2.2.length∧t.2.2.length≤1000000)(hy:SlR B Fr (slv u.2.1) (u.2.2.map w64)∧u.2.1.2.1=u.2.2.length∧u.2.2.length≤1000000):
 ∀ w,Holds B Fr w→Calls Tryz.prog 30 [crV t,crV u].toArray w (aZ B Fr (.bool (decide (crC t=crC u)))):=by
 refine an func30 aa ntmps30 aa (ac (ab (kPb (aX aa) aa fun b2=>(kPb (aX aa) aa fun b3=>(kPa aa aa (ad (ac (ab (kPl kS isAgg29 aa aa aa aa (kPl kS isAgg29 aa aa aa aa (kPv (ao aa aa aa) aa ?_)))))))))))
 refine kPm aa aa ?_
 apply dN (tp:=16) (t:=10) (σ1:=[(10,_),(4,_)]) 6 rfl ⟨rfl,rfl,trivial⟩
 ·intro hg1
  refine al aa (aD (m:=_) iG aa aa) (.on aa aa (ae hg1)) aa aa (al aa (ah isAgg30 aa aa) (.on aa aa (ae hg1)) aa aa (al aa (aD (m:=_) iG aa aa) (.on aa aa (ae hg1)) aa aa (al aa (ah isAgg30 aa aa) (.on aa aa (ae hg1)) aa aa (aw aa (au call25 aa) (Em hx hy) (.on aa aa (ae hg1)) aa aa ?_))))
  refine kPv (ay aa hg1 aa) aa ?_
  exact aY aa ⟨rfl,rfl,trivial⟩ (cY hg1)
 ·intro hg1
  refine ap aa (.on aa aa (ai hg1)) aa (ap aa (.on aa aa (ai hg1)) aa (ap aa (.on aa aa (ai hg1)) aa (ap aa (.on aa aa (ai hg1)) aa (ap aa (.on aa aa (ai hg1)) aa (kPv (aJ aa hg1 aa) aa ?_)))))
  exact aY aa ⟨rfl,rfl,trivial⟩ (cZ hg1)
 refine kPa aa aa (ad (az ?_))
 exact aq results30 aa (fun w hw=>⟨by rw[DN],(hw.dp [0,0])⟩)
theorem DF(B:World)(Fr:List HP)(q1 q2:Option Addr)(c1 c2:Nat)(r1 r2:List CR)(hn1:r1.length≤1000000)(hn2:r2.length≤1000000)(h1:CmR B Fr q1 c1 r1)(h2:CmR B Fr q2 c2 r2):
 ∀ w,Holds B Fr w→Calls Tryz.prog 29 [.slice q1 r1.length c1,.slice q2 r2.length c2,.func (.func 30) #[] #[]].toArray w (aZ B Fr (.bool (decide (r1.map crC=r2.map crC)))):=by
 refine an func29 aa ntmps29 aa (ac (ab (kPa aa aa (ad (ac (ac (ab (kPm aa aa (kPv (bD aa runUnderlying24 ⟨_,rfl⟩ rfl) aa (kPm aa aa (kPv (bD aa runUnderlying24 ⟨_,rfl⟩ rfl) aa ?_)))))))))))
 refine kPv (ao aa aa aa) aa (ad ?_)
 refine a8 aa (fun h14=> ?_) (fun h14=> ?_)
 ·have hne:r1.length≠r2.length:=by intro e;rw[e] at h14;simp at h14
  refine ac (ab (kPa aa aa (ad (az ?_))))
  exact aq results29 aa (fun w hw=>⟨by rw[decide_eq_false (fun e=>hne (by have:=congrArg List.length e;simpa using this))],hw⟩)
 ·have hle:r1.length=r2.length:=by simp at h14;omega
  refine ar (ac (ac (ab (kPm aa aa (kPv (bD aa runUnderlying24 ⟨_,rfl⟩ rfl) aa (kPm aa aa (ad (aG (cK (ι:=Nat) [16,15,6,1,2] (fun k=>(k≤r1.length)∧(∀ j,j<k→(r1[j]?).map crC=(r2[j]?).map crC)) (fun k=>[(17,i64 k)]) (fun k=>Fr) (fun k=>r1.length - k) (0) (⟨Nat.zero_le _,fun j h=>absurd h (Nat.not_lt_zero _)⟩) (fun a w st=>st.to ⟨rfl,trivial⟩ (fun hh=>hh)) ?_)))))))))
  rintro k ⟨hk0,hall⟩
  try simp only at hk0 hall ⊢
  refine cu (σ':=[(17,i64 k),(16,_),(15,_),(6,_),(1,_),(2,_)]) (aE aa) (ac (ab (kPv (ao aa aa aa) aa (ad (ac ?_)))))
  refine a8 aa (fun h18=> ?_) (fun h18=> ?_)
  ·have hk:k<r1.length:=by simp at h18;omega
   refine rS h1.sl.up (by rw[List.length_map];omega) fun b1 o1 e1=> ?_
   subst e1
   refine rS h2.sl.up (by rw[List.length_map];omega) fun b2 o2 e2=> ?_
   subst e2
   refine ar (ac (aG (ac (ab (kPm aa aa (kPv (jT (sz:=2) runUnderlying24 sizeOf32 aa aa (by omega) (by omega) aa) aa ?_))))))
   refine kPv (gK (i:=k) (c:=[i64 r1[k].1,slv r1[k].2.1]) isAgg32 sizeOf32 h1.sl.up aa (by rw[List.getElem?_map,List.getElem?_eq_getElem (by omega)];rfl)) aa ?_
   refine kPb (aC zeroValue32 aa) aa fun b8=>(kPa aa aa (kPs (ax (vs:=[i64 r1[k].1,slv r1[k].2.1]) sizeOf32 aa aa aa aa aa) aa (ad (ac (ab (kPm aa aa (kPm aa aa (kPv (jT (sz:=2) runUnderlying24 sizeOf32 aa aa (by omega) (by omega) aa) aa ?_))))))))
   refine kPv (gK (i:=k) (c:=[i64 (r2[k]'(by omega)).1,slv (r2[k]'(by omega)).2.1]) isAgg32 sizeOf32 h2.sl.up aa (by rw[List.getElem?_map,List.getElem?_eq_getElem (by omega)];rfl)) aa ?_
   refine kPb (aC zeroValue32 aa) aa fun b9=>(kPs (ax (vs:=[i64 (r2[k]'(by omega)).1,slv (r2[k]'(by omega)).2.1]) sizeOf32 aa aa aa aa aa) aa (ad (am [9,8,17,16,15,6,1,2] rfl (ac (ab (kPm aa aa (kPv (ag isAgg32 sizeOf32 aa aa) aa ?_)))))))
   refine kPv (ag isAgg32 sizeOf32 aa aa) aa ?_
   refine aw aa (iO call30 aa aa) (za _ _ r1[k] (r2[k]'(by omega)) (h1.up.nm _ (List.getElem_mem hk)) (h2.up.nm _ (List.getElem_mem _))) .free aa aa ?_
   refine kPv (bz aa) aa (ad ?_)
   refine a8 aa (fun h30=> ?_) (fun h30=> ?_)
   ·have hkk:crC r1[k]≠crC (r2[k]'(by omega)):=by simp only[Bool.not_eq_true',decide_eq_false_iff_not] at h30;exact h30
    refine ac (ab (kPa aa aa (ad (am [6,17,16,15,1,2] rfl (az ?_)))))
    exact aq results29 aa (fun w hw=>⟨by
   rw[decide_eq_false fun e=>hkk ?_]
   have h9:=congrArg (fun l=>l[k]?) e
   simp only[List.getElem?_map,List.getElem?_eq_getElem hk,List.getElem?_eq_getElem (show k<r2.length by omega),Option.map_some] at h9
   exact Option.some.inj h9,(hw.dp [0,0])⟩)
   ·have hkk:crC r1[k]=crC (r2[k]'(by omega)):=by simp only[Bool.not_eq_false',decide_eq_true_eq] at h30;exact h30
    refine ar (ab (kPv (aN aa aa) aa (kPm aa aa (ad (am [17,16,15,6,1,2] rfl ?_)))))
    exact fun a w st_=>⟨k+1,⟨by first | omega | (simp only;omega),fun j hj=>by
   rcases Nat.lt_succ_iff_lt_or_eq.1 hj with h | h
   ·exact hall j h
   ·subst h;rw[List.getElem?_eq_getElem hk,List.getElem?_eq_getElem (by omega)];exact congrArg some hkk⟩,by first | omega | (simp only;omega),st_.to (aE aa) (fun hh=>(hh.dp [0,0]))⟩
  ·have hk:¬ k<r1.length:=by simp at h18;omega
   refine bF (ac (ab (kPa aa aa (ad (az ?_)))))
   exact aq results29 aa (fun w hw=>⟨by
   have e:r1.map crC=r2.map crC:=List.ext_getElem? fun j=>by
    rw[List.getElem?_map,List.getElem?_map]
    by_cases hj:j<k
    ·exact hall j hj
    ·rw[List.getElem?_eq_none (by omega),List.getElem?_eq_none (by omega)]
   rw[decide_eq_true e],hw⟩)
theorem Bm(B:World)(Fr:List HP)(q1 q2:Option Addr)(c1 c2:Nat)(r1 r2:List CR)(hn1:r1.length≤1000000)(hn2:r2.length≤1000000)(h1:CmR B Fr q1 c1 r1)(h2:CmR B Fr q2 c2 r2):
 ∀ w,Holds B Fr w→Calls Tryz.prog 15 [.slice q1 r1.length c1,.slice q2 r2.length c2].toArray w (aZ B Fr (.bool (decide (r1.map crC=r2.map crC)))):=by
 refine an func15 aa ntmps15 aa (ac (ab (kPa aa aa (ad (ac (ab (kPm aa aa (kPm aa aa (aw aa (au call29 aa) (DF _ _ q1 q2 c1 c2 r1 r2 hn1 hn2 h1 h2) .free aa aa ?_)))))))))
 refine kPa aa aa (ad (az ?_))
 exact aq results15 aa (fun w hw=>⟨rfl,hw⟩)
def dj(c:Cmd):List UInt8:=if c.1<0∨18≤c.1 then [63] else c.2.foldl (fun l n=>l++([32]++Lib.decDigits n.toNat)) (fw c.1.toNat)
theorem rT:∀ k,k<18→(fw k).length≤7:=by decide
theorem BU{B:World}(fg:FG B){k:Nat}(hk:k<18):B.cell? ⟨1,k*2,none⟩=some (str (fw k)):=by
 obtain⟨b,off,e,_,h⟩:=fg.cell 0 (by decide)
 injection e with e
 injection e with e1 e2
 subst e1;subst e2
 have h2:=h (k*2) (by omega)
 have h3:=mE k hk
 have h4:vB[k*2]? =some (str (fw k)):=by
  have:=congrArg (fun l=>l[0]?) h3
  simpa using this
 rw[show 0+(0*36+k*2)=k*2 by omega,h4] at h2
 exact h2
theorem qx{c:Cmd}(h:c.2.length≤1000)(hb:∀ n∈c.2,n<18446744073709551616):(dj c).length≤7+c.2.length*21:=by
 unfold dj
 split
 ·simp only[List.length_cons,List.length_nil];omega
 ·have key:∀ (l:List Int) (a:List UInt8),(∀ n∈l,n<18446744073709551616)→(l.foldl (fun l n=>l++([32]++Lib.decDigits n.toNat)) a).length≤a.length+l.length*21:=by
   intro l
   induction l with
   | nil=>intro a _;simp
   | cons n t ih=>
     intro a hn
     have h1:=ih (a++([32]++Lib.decDigits n.toNat)) (fun m hm=>hn m (List.mem_cons_of_mem _ hm))
     have h2:=kw n.toNat (by have:=hn n (List.mem_cons_self ..);omega)
     simp only[List.foldl_cons,List.length_cons] at h1 ⊢
     simp only[List.length_append,List.length_cons,List.length_nil] at h1
     omega
  have h1:=key c.2 (fw c.1.toNat) hb
  have h2:=rT c.1.toNat (by omega)
  omega
theorem qe{α β:Type}{f:β→α→β}{a:β}{l:List α}{k:Nat}(h:k<l.length):(l.take (k+1)).foldl f a=f ((l.take k).foldl f a) l[k]:=by
 rw[List.take_succ_eq_append_getElem h,List.foldl_append];rfl
theorem kP(B:World)(Fr:List HP)[cM Fr B](gl:GL B){n:Int}(h:0≤n∧n<18446744073709551616):∀ w,Holds B Fr w→Calls Tryz.prog 21 [w64 n,i64 10].toArray w (aZ B Fr (str (Lib.decDigits n.toNat))):=by
 obtain⟨u,rfl⟩:=Int.eq_ofNat_of_zero_le h.1
 exact ub B Fr gl u (by omega)
theorem yX{xs:List Int}{k:Nat}(hk:k<xs.length):(xs.map w64)[k]? =some (w64 xs[k]):=by simp[hk]
theorem ux(B:World)(Fr:List HP)[cM Fr B](gl:GL B)(fg:FG B)(kd:Int)(q:Option Addr)(cap:Nat)(ns:List Int)(hn:ns.length≤1000)(hnb:∀ n∈ns,0≤n∧n<18446744073709551616)(hr:SlR B Fr (.slice q ns.length cap) (ns.map w64))(hq:∀ i,i<ns.length→∃ b off,q=some ⟨b,off,none⟩):
 ∀ w,Holds B Fr w→Calls Tryz.prog 13 [.agg #[i64 kd,.slice q ns.length cap]].toArray w (aZ B Fr (str (dj (kd,ns)))):=by
 refine an func13 aa ntmps13 aa (ac (ab (kPb (aX aa) aa fun b1=>(kPa aa aa (ad (ac (ac (ab (kPl kS isAgg29 aa aa aa aa (kPv (ao aa aa aa) aa (kPm aa aa ?_)))))))))))
 apply gP (tp:=13) (t:=9) (σ1:=[(9,_),(2,_),(1,_)]) 4 rfl (aE rfl)
 ·intro hg1
  refine al aa (aD (m:=_) kS aa aa) (.on aa aa (ae hg1)) aa aa (al aa (ah isAgg29 aa aa) (.on aa aa (ae hg1)) aa aa (al aa (ao aa aa aa) (.on aa aa (ae hg1)) aa aa (kPv (aJ aa hg1 aa) aa ?_)))
  exact aY aa (aE aa) (gg hg1)
 ·intro hg1
  refine ap aa (.on aa aa (ai hg1)) aa (ap aa (.on aa aa (ai hg1)) aa (ap aa (.on aa aa (ai hg1)) aa (kPv (ay aa hg1 aa) aa ?_)))
  exact aY aa (aE aa) (ge hg1)
 refine ad ?_
 refine a8 aa (fun h13=> ?_) (fun h13=> ?_)
 ·have hbad:kd<0∨18≤kd:=by simpa using h13
  have hres:dj (kd,ns)=[63]:=by unfold dj;rw[if_pos hbad]
  refine ac (ab (kPa aa aa (ad (az ?_))))
  exact aq results13 aa (fun w hw=>⟨by rw[hres],(hw.dp [0])⟩)
 ·have hok:¬ (kd<0∨18≤kd):=by intro h;simp at h13;omega
  have hk18:kd.toNat<18:=by omega
  have hres:dj (kd,ns)=ns.foldl (fun l n=>l++([32]++Lib.decDigits n.toNat)) (fw kd.toNat):=by unfold dj;rw[if_neg hok]
  have hf0:=rT kd.toNat hk18
  refine ar (ac (ab (kPl kS isAgg29 aa aa aa aa (kPv (mF (m:=kd.toNat*2) runUnderlying62 sizeOf61 aa aa (by omega) (by omega) (by omega)) aa (kPv (aD (m:=_) w3 aa aa) aa (kPv (mc isAgg9 aa (BU fg hk18)) aa (kPa aa aa (ad (am [3,2,1] rfl (ac (ac ?_)))))))))))
  refine ab (kPl iG isAgg30 aa aa aa aa (kPv (bD aa runUnderlying30 ⟨_,rfl⟩ rfl) aa (kPm aa aa (ad (aG (cK (ι:=Nat×List UInt8) [21,20,2] (fun (k,o)=>(k≤ns.length)∧(o=((ns.take k).foldl (fun l n=>l++([32]++Lib.decDigits n.toNat)) (fw kd.toNat)))∧(o.length≤7+k*21)) (fun (k,o)=>[(22,i64 k),(3,str o)]) (fun (k,o)=>row b1 [i64 kd,.slice q ns.length cap] 32::Fr) (fun (k,o)=>ns.length - k) (0,fw kd.toNat) (⟨Nat.zero_le _,by simp,by omega⟩) (fun a w st=>st.to ⟨rfl,rfl,trivial⟩ (fun hh=>hh)) ?_))))))
  rintro⟨k,o⟩ ⟨hk0,ho,hol⟩
  try simp only at hk0 ho hol ⊢
  refine cu (σ':=[(22,i64 k),(3,str o),(21,_),(20,_),(2,_)]) (aE aa) (ac (ab (kPv (ao aa aa aa) aa (ad (ac ?_)))))
  refine a8 aa (fun h23=> ?_) (fun h23=> ?_)
  ·have hk:k<ns.length:=by simp at h23;omega
   obtain⟨bq,oq,rfl⟩:=hq k hk
   have hd20:=kw (ns[k]).toNat (by have:=hnb _ (List.getElem_mem hk);omega)
   refine ar (ac (aG (ac (ab (kPv (cg runUnderlying30 sizeOf25 aa aa (by omega) (by omega)) aa (kPv (bP (v:=w64 ns[k]) isAgg25 hr.up aa (by rw[Int.toNat_natCast];exact yX hk)) aa (kPa aa aa (ad (ab (kPm aa aa (kPm aa aa ?_)))))))))))
   refine aw aa (au call21 aa) (kP B _ gl (hnb _ (List.getElem_mem hk))) .free aa aa ?_
   refine al aa (dF aa aa (by first | omega | (simp only[List.length_append,List.length_cons,List.length_nil];omega))) .free aa aa ?_
   refine al aa (dF aa aa (by first | omega | (simp only[List.length_append,List.length_cons,List.length_nil];omega))) .free aa aa ?_
   refine kPa aa aa (ad (am [3,22,21,20,2] rfl (ab (kPv (aN aa aa) aa (kPm aa aa (ad ?_))))))
   exact fun a w st_=>⟨(k+1,o++([32]++Lib.decDigits (ns[k]).toNat)),⟨by first | omega | (simp only;omega),by rw[qe hk,ho],by simp only[List.length_append,List.length_cons,List.length_nil];omega⟩,by first | omega | (simp only;omega),st_.to (aE aa) (fun hh=>hh)⟩
  ·have hk:k=ns.length:=by simp at h23;omega
   refine bF (ac (ab (kPm aa aa (kPa aa aa (ad (az ?_))))))
   exact aq results13 aa (fun w hw=>⟨by rw[hres,ho,hk,List.take_length],(hw.dp [0])⟩)
theorem BE{l:List UInt8}{c:UInt8}(h:¬ Lib.indexByte l c<0):∃ i:Nat,Lib.indexByte l c=i∧i<l.length:=by
 rcases qz l c with h1 | h1
 ·omega
 ·exact h1
theorem Bd(B:World)(Fr:List HP)(s:List UInt8):
 ∀ w,Holds B Fr w→Calls Tryz.prog 51 [str s,.string ⟨#[10]⟩,i64 0].toArray w (Ret B (fun v H'=>∃ b1 b2 b3,v= .func (.func 94) [].toArray [ptr b2,ptr b1,ptr b3].toArray∧H'=row b3 [i64 0] 3::row b2 [.string ⟨#[10]⟩] 9::row b1 [str s] 9::Fr) (fun _ _=>False)):=by
 refine an func51 aa ntmps51 aa (ac (ab (kPb (dL aa aa) aa fun b3=>(kPb (dL aa aa) aa fun b4=>(kPb (dL aa aa) aa fun b5=>(kPa aa aa (ad (ac (ab (kPv (dz aa aa) aa (kPa aa aa ?_)))))))))))
 refine ad (am [6] rfl (az ?_))
 exact aq results51 aa (fun w hw=>⟨_,⟨_,_,_,rfl,rfl⟩,hw⟩)
theorem yT(B:World)(Fr:List HP)(s:List UInt8):
 ∀ w,Holds B Fr w→Calls Tryz.prog 26 [str s,.string ⟨#[10]⟩].toArray w (Ret B (fun v H'=>∃ b1 b2 b3,v= .func (.func 94) [].toArray [ptr b2,ptr b1,ptr b3].toArray∧H'=row b3 [i64 0] 3::row b2 [.string ⟨#[10]⟩] 9::row b1 [str s] 9::Fr) (fun _ _=>False)):=by
 refine an func26 aa ntmps26 aa (ac (ab (kPa aa aa (ad (ac (ab (kPm aa aa (kPm aa aa (aH aa (au call51 aa) (Bd _ _ s) .free aa aa ?_)))))))))
 rintro _ _ ⟨b1,b2,b3,rfl,rfl⟩
 refine kPa aa aa (ad (az ?_))
 exact aq results26 aa (fun w hw=>⟨_,⟨_,_,_,rfl,rfl⟩,hw⟩)
theorem yU(B:World)(E:List HP)[cM E B](l f b1 b2 b3 N:Nat)(s:List UInt8)(hs:s.length≤N)(hN:N≤1000000)(ι:Type)(r:Loop)(hrf:r.fn=f)(hrp:r.params.size=1)(I:ι→Prop)(Hx:ι→List HP)(cd:ι→Code)(st:List UInt8→ι→Bool×ι)(x0:ι)(h0:I x0)(hround:∀ (p:List UInt8) (x:ι),p.length≤N→I x→I (st p x).2∧∀ (E:List HP) [cM E B] w,Holds B (blk l (.loop r)::(Hx x++E)) w→RoundIn (Wd (cxF f)) 0 Tryz.prog l f ((r.params.zip [str p].toArray).foldl (fun tmps (t,a)=>tmps.setIfInBounds t a) r.tmps) r.assign r.body w (Ret B (fun rv H'=>rv= .bool (st p x).1∧H'=blk l (.loop (lst r cd (st p x)))::(Hx (st p x).2++E)) (fun _ _=>False))):
 ∀ w,Holds B (row b1 [str s] 9::row b2 [.string ⟨#[10]⟩] 9::row b3 [i64 0] 3::blk l (.loop r)::(Hx x0++E)) w→Calls Tryz.prog 94 [.func (.yield l) #[] #[],ptr b2,ptr b1,ptr b3].toArray w (Ret B (fun _ H'=>I (itl st (spl 10 s) x0).2∧H'=blk l (.loop (lst r cd (itl st (spl 10 s) x0)))::(Hx (itl st (spl 10 s) x0).2++E)) (fun _ _=>False)):=by
 refine an func94 aa ntmps94 aa (ac (ac (ab (kPv (ah isAgg9 aa aa) aa (kPv (me aa runUnderlying9 aa) aa (kPv (ao aa aa aa) aa (ad (bH aa (rfl) (ar (ac (aG ?_)))))))))))
 refine cK (ι:=List UInt8×ι) [0,1,2,3] (fun (q,x)=>(q.length≤s.length)∧(I x)∧(itl st (spl 10 s) x0=itl st (spl 10 q) x)) (fun (q,x)=>[]) (fun (q,x)=>row b1 [str q] 9::row b2 [.string ⟨#[10]⟩] 9::row b3 [i64 0] 3::blk l (.loop r)::(Hx x++E)) (fun (q,x)=>q.length) (s,x0) (⟨Nat.le_refl _,h0,rfl⟩) (fun a w st=>st.to trivial (fun hh=>hh)) ?_
 rintro⟨q,x⟩ ⟨hq,hIx,hinv⟩
 try simp only at hq hIx hinv ⊢
 refine cu (σ':=[(0,_),(1,_),(2,_),(3,_)]) (aE aa) (aG (ac (ab (kPv (ah isAgg9 aa aa) aa (kPv (ah isAgg9 aa aa) aa (aw aa (au call41 aa) (Bf _ q 10) .free aa aa ?_))))))
 refine kPa aa aa (ad (ac (ac (ab (kPm aa aa (kPv (ao aa aa aa) aa (ad ?_)))))))
 refine a8 aa (fun h33=> ?_) (fun h33=> ?_)
 ·have hneg:Lib.indexByte q 10= -1:=wK (by simpa using h33)
  refine bF (ab (kPm aa aa (kPv (ah isAgg9 aa aa) aa ?_)))
  refine fU (f:=f) (r:=r) (H1:=Hx x++(row b1 [str q] 9::row b2 [.string ⟨#[10]⟩] 9::row b3 [i64 0] 3::E)) aa aa (fun w hh=>hh.perm (wt (Hx x) E)) (by rw[hrp];rfl) hrf ((hround q x (by omega) hIx).2 (row b1 [str q] 9::row b2 [.string ⟨#[10]⟩] 9::row b3 [i64 0] 3::E)) .free aa ?_ ?_
  rotate_left
  ·rintro _ _ ⟨⟩
  rintro _ _ ⟨rfl,rfl⟩
  refine aM (fun w hh=>hh.perm (wt (Hx (st q x).2) E).symm) (ad (am [] rfl ?_))
  exact cI results94 (fun w hh=>⟨_,⟨by rw[hinv,sZ hneg,BD];exact(hround q x (by omega) hIx).1,by rw[hinv,sZ hneg,BD]⟩,(hh.dp [0,0,0])⟩)
 ·obtain⟨i,hi,hil⟩:=BE (show ¬ Lib.indexByte q 10<0 by simpa using h33)
  rw[hi]
  refine ar (ac (ab (kPv (ah isAgg9 aa aa) aa (kPm aa aa (kPv (ah isAgg3 aa aa) aa (kPv (jJ aa aa (show IntKind.i64.wrap ((i:Int)+0)=i by rw[Int.add_zero];exact gV (by omega))) aa (kPv (qV runUnderlying9 aa aa (by omega) (by omega)) aa (kPa aa aa (ad (am [8,7,0,1,2,3] rfl (ac ?_)))))))))))
  refine ac (ab (kPm aa aa (kPm aa aa ?_)))
  refine fU (f:=f) (r:=r) (H1:=Hx x++(row b1 [str q] 9::row b2 [.string ⟨#[10]⟩] 9::row b3 [i64 0] 3::E)) aa aa (fun w hh=>hh.perm (wt (Hx x) E)) (by rw[hrp];rfl) hrf ((hround (q.take i) x (by rw[List.length_take];omega) hIx).2 (row b1 [str q] 9::row b2 [.string ⟨#[10]⟩] 9::row b3 [i64 0] 3::E)) .free aa ?_ ?_
  rotate_left
  ·rintro _ _ ⟨⟩
  rintro _ _ ⟨rfl,rfl⟩
  refine aM (fun w hh=>hh.perm (wt (Hx (st (q.take i) x).2) E).symm) (kPv (bz aa) aa (ad ?_))
  refine a8 aa (fun h42=> ?_) (fun h42=> ?_)
  ·have hg:(st (q.take i) x).1=false:=by simpa using h42
   have hres:itl st (spl 10 s) x0=st (q.take i) x:=by rw[hinv,sY hi];exact zG hg
   refine az ?_
   exact iX results94 (fun w hh=>⟨_,⟨by rw[hres];exact(hround (q.take i) x (by rw[List.length_take];omega) hIx).1,by rw[hres]⟩,(hh.dp [0,0,0])⟩)
  ·have hg:(st (q.take i) x).1=true:=by simpa using h42
   have hlr:lst r cd (st (q.take i) x)=r:=by unfold lst;rw[if_pos hg]
   refine ar (ab (kPv (ah isAgg9 aa aa) aa (kPm aa aa (kPv (ah isAgg9 aa aa) aa (kPv (me aa runUnderlying9 aa) aa (kPv (jJ aa aa (show IntKind.i64.wrap ((i:Int)+(([10]:List UInt8).length:Int))=((i+1:Nat):Int) by simp only[List.length_cons,List.length_nil];rw[gV (by omega)];omega)) aa (kPv (qU (i:=((i+1:Nat):Int)) runUnderlying9 aa aa (by omega) (by omega)) aa ?_)))))))
   refine kPs (aO sizeOf9 aa aa (by first | rfl | assumption) rfl) rfl ?_;refine ad ?_;refine am [0,1,2,3] rfl ?_
   exact fun a w st_=>⟨(q.drop (i+1),(st (q.take i) x).2),⟨by rw[List.length_drop];omega,(hround (q.take i) x (by rw[List.length_take];omega) hIx).1,by rw[hinv,sY hi];simp only[itl];rw[if_pos hg]⟩,by rw[List.length_drop];omega,st_.to (aE aa) (fun hh=>(by have hh:=hh;rw[hlr] at hh;exact hh))⟩
theorem lF:∀ (l:List UInt8) (st:Option (List UInt8)),(tok l st).length≤l.length+1∧∀ p∈tok l st,p.length≤l.length+(st.getD []).length
 | [],st=>by cases st<;>simp[tok]
 | x::t,st=>by
   have h1:=lF t none
   have h2:=lF t (some (st.getD []++[x]))
   unfold tok
   split
   ·cases st with
    | none=>exact⟨by simp only[List.length_cons];omega,fun p hp=>by have:=h1.2 p hp;simp at this ⊢;omega⟩
    | some c=>
      refine⟨by simp only[List.length_cons];omega,fun p hp=> ?_⟩
      rcases List.mem_cons.1 hp with rfl | hp
      ·simp
      ·have:=h1.2 p hp;simp at this ⊢;omega
   ·exact⟨by simp only[List.length_cons];omega,fun p hp=>by have:=h2.2 p hp;simp at this ⊢;omega⟩
theorem xm{p:List UInt8}(hp:p.length≤100000)(i:Nat):((tok (dw p) none).getD i []).length≤1000000:=by
 have h:=(lF (dw p) none).2
 have h2:=py p
 rw[List.getD_eq_getElem?_getD]
 cases e:(tok (dw p) none)[i]? with
 | none=>simp
 | some q=>have:=h q (List.mem_of_getElem? e);simp at this ⊢;omega
theorem A7{p:List UInt8}(hp:p.length≤100000):(tok (dw p) none).length≤1000000:=by
 have h:=(lF (dw p) none).1
 have h2:=py p
 omega
theorem lO(B:World)(Fr:List HP)[cM Fr B](gl:GL B)(fg:FG B)(s:List UInt8):
 ∀ w,Holds B Fr w→Calls Tryz.prog 14 [str s].toArray w (Ret B (fun rv H'=>∃ sv,aL sv=true∧rv= .tuple #[sv,i64 (eV s).2.1,i64 (eV s).2.2]∧H'=kE 0 (sv,(eV s).1)::Fr) (fun _ _=>False)):=by
 refine eI func14 aa ntmps14 aa (ac (ab (kPb (cf zeroValue24 aa) aa fun b2=>(kPb (cf zeroValue3 aa) aa fun b3=>(kPb (cf zeroValue36 aa) aa fun b4=>(ad (wT (ac (ac (ab (kPm aa aa ?_)))))))))))
 refine kPv (me aa runUnderlying9 aa) aa (kPv (ao aa aa aa) aa (ad ?_))
 refine a8 aa (fun h13=> ?_) (fun h13=> ?_)
 ·have hsl:65536<s.length:=by simp at h13;omega
  have hres:eV s=([],0,11):=by unfold eV;rw[if_pos hsl]
  refine ac (ab ?_)
  refine kPs (aO sizeOf24 aa aa (by first | rfl | assumption) rfl) rfl ?_;refine kPs (aO sizeOf3 aa aa aa aa) aa ?_;refine kPs (aO sizeOf36 aa aa aa aa) aa ?_;refine ad ?_;refine az ?_
  exact rt results14 (.nil) (.aL aa isAgg24 aa) (.aL aa isAgg3 aa) (.aL aa isAgg36 aa) (fun w hh=>⟨_,⟨.slice none 0 0,rfl,by rw[hres],rfl⟩,by rw[hres];exact pA ((hh.dp [0,0,0]))⟩)
 ·have hsl:s.length≤65536:=by simp at h13;omega
  refine ar (ac (ab (kPb (cf zeroValue24 aa) aa fun b5=>(ad (ac (ab (kPb (cf zeroValue3 aa) aa fun b6=>(kPs (aO sizeOf3 aa aa aa aa) aa (ad (ac (wU ?_)))))))))))
  refine ac (ac (ab (kPm aa aa (aH aa (au call26 aa) (yT B _ s) .free aa aa ?_))))
  rintro _ _ ⟨c1,c2,c3,rfl,rfl⟩
  refine ad (aG (kO aa call94 ?_))
  intro l m tmps hts hkn w hh
  have hk2:=hkn 2 _ rfl
  have hk3:=hkn 3 _ rfl
  have hk4:=hkn 4 _ rfl
  have hk5:=hkn 5 _ rfl
  have hk6:=hkn 6 _ rfl
  refine(yU B (blk m (.deferred (some []))::Fr) l 14 c1 c2 c3 65536 s hsl (by decide) PSt _ aa aa (fun x=>x.2.1.length≤400) (fun x=>[row b6 [i64 x.1] 3,DU b5 x.2.1,row b2 [.slice none 0 0] 24,row b3 [i64 x.2.2.2.1] 3,row b4 [i64 x.2.2.2.2] 36]) (fun _=> .ret) stP p0 (Nat.zero_le _) ?_ w (by have h1:=(hh.pk [6,4,3,2,0,1,3,2,1]);exact(jq aa ((pA h1).pk [1])).pk [1,1,1,1,1])).mono (Ret.mono ?_ fun _ _ h=>h.elim)
  ·intro p x hpl hxl
   refine⟨?_,fun E hE=> ?_⟩
   ·unfold stP;simp only;split
    ·exact hxl
    ·split
     ·exact hxl
     ·split
      ·exact hxl
      ·simp only[List.length_append,List.length_cons,List.length_nil];omega
   simp only[List.cons_append,List.nil_append]
   refine gG (n:=42) (σ:=[(16,str p),(2,ptr b2),(3,ptr b3),(4,ptr b4),(5,ptr b5),(6,ptr b6)]) func14 (by simp[fO,hts]) (KnA.knows (by simp[KnA,fO,hts];exact⟨(Array.getElem?_eq_some_iff.1 hk2).2,(Array.getElem?_eq_some_iff.1 hk3).2,(Array.getElem?_eq_some_iff.1 hk4).2,(Array.getElem?_eq_some_iff.1 hk5).2,(Array.getElem?_eq_some_iff.1 hk6).2⟩)) aa ?_
   refine ab (kPa aa aa (ad (kh (aG (ac (ab (kPv (ah isAgg3 aa aa) aa (kPv (jJ aa aa aa) aa (kPs (aO sizeOf3 aa aa aa aa) aa (ad (ac ?_)))))))))))
   refine ab (kPm aa aa (aH aa (au call27 aa) (yG _ _ p (by omega)) .free aa aa ?_))
   rintro sv _ rfl
   refine kPa aa aa (ad (ac (ac (BJ fun q cap hq hcap hqi=> ?_))))
   subst hq
   refine ab (kPm aa aa (kPv (bD aa runUnderlying50 ⟨_,rfl⟩ rfl) aa (kPv (ao aa aa aa) aa (ad (am [23,8,2,3,4,5,6] rfl ?_)))))
   refine a8 aa (fun h23=> ?_) (fun h23=> ?_)
   ·have hws:(tok (dw p) none)=[]:=List.eq_nil_of_length_eq_zero (by simp at h23;simpa using h23)
    refine bF ?_
    have hst:stP p x=(true,IntKind.i64.wrap (x.1+1),x.2.1,x.2.2):=by unfold stP;simp only;rw[if_pos hws]
    refine aP [1] ?_
    exact kg fun w hh=>⟨_,⟨by rw[hst],rfl⟩,by rw[hst];exact(hh.dp [1])⟩
   ·have hws:¬ (tok (dw p) none)=[]:=fun e=>by simp[e] at h23
    refine ar (ac (ac (aP [3] (wP fun rv hrv=>(aP [1] (lX fun rs hrs=>(iZ fun q2 cap2 hq2 hqi2=> ?_)))))))
    subst hq2
    have hrl:rs.length=x.2.1.length:=by rw[←hrs.1,List.length_map]
    refine ab (kPv (ah isAgg24 aa aa) aa (kPv (bD aa runUnderlying24 ⟨_,rfl⟩ rfl) aa (kPv (ao aa aa aa) aa (ad ?_))))
    refine a8 aa (fun h26=> ?_) (fun h26=> ?_)
    ·have h400:x.2.1.length=400:=by simp at h26;omega
     refine ac (cW [0,1,2,3] [1,2,3] [0] [1] [row b6 ([i64 x.1].set 0 (i64 (IntKind.i64.wrap (x.1+1)))) 3] Tryz.mixed (by kernel_rfl) ?_)
     refine aj aa aa aa (ah isAgg3 aa aa) .free aa (aT aa aa ?_)
     refine kPs (aO sizeOf24 aa aa (by first | rfl | assumption) rfl) rfl ?_;refine ad ?_;refine cN ?_;refine aT aa aa ?_;refine kPs (aO sizeOf3 aa aa aa aa) aa ?_;refine ad ?_
     refine c7 aa (aT aa aa (kPs (aO sizeOf36 aa aa aa aa) aa (ad (c7 aa (cy (az ?_))))))
     have hst:stP p x=(false,IntKind.i64.wrap (x.1+1),x.2.1,[],IntKind.i64.wrap (x.1+1),11):=by unfold stP;simp only;rw[if_neg hws,if_pos (by omega)]
     refine aP [4] ?_
     exact wQ fun w hh=>⟨_,⟨by rw[hst],rfl⟩,by rw[hst];exact(by have h1:=((hh.dp [4]).pk [1,1,1]);exact(jq hrv ((eM hrs h1).pk [1])).pk [1,1])⟩
    ·have h400:¬ x.2.1.length=400:=by simp at h26;omega
     refine ar (ac ?_)
     obtain⟨bq,oq,rfl⟩:=hqi (by cases h:(tok (dw p) none) with | nil=>exact absurd h hws | cons a t=>simp)
     have hwl0:0<(tok (dw p) none).length:=by cases h:(tok (dw p) none) with | nil=>exact absurd h hws | cons a t=>simp
     refine ab (kPm aa aa (aP [3] (aH aa (au call28 aa) (zB B _ gl fg (tok (dw p) none) (by omega) (A7 (by omega)) (xm (by omega)) _ _ _ hcap (yO 0 aa)) .free aa aa ?_)))
     rintro _ _ ⟨sv9,hsv9,rfl,rfl⟩
     refine kPm aa aa (kPv (aA aa aa) aa (kPv (aA aa aa) aa (kPb (aC zeroValue32 aa) aa fun b9=>(kPs (ax (vs:=[i64 (cR (tok (dw p) none)).1.1,sv9]) sizeOf32 aa aa aa (show([i64 (cR (tok (dw p) none)).1.1,sv9]:List Value).all aL=true by simp only[List.all_cons,List.all_nil,hsv9];rfl) aa) aa (kPa aa aa (ad (am [10,9,2,3,4,5,6] rfl (ac (ac (ab (kPm aa aa ?_)))))))))))
     refine kPv (ao aa aa aa) aa (ad ?_)
     refine a8 aa (fun h34=> ?_) (fun h34=> ?_)
     ·have he0:(cR (tok (dw p) none)).2≠0:=by simpa using h34
      refine ac (cW [0,1,2,3,4] [2,3,4] [0,1] [2,3] [row b6 ([i64 x.1].set 0 (i64 (IntKind.i64.wrap (x.1+1)))) 3] Tryz.mixed (by kernel_rfl) ?_)
      refine aj aa aa aa (ah isAgg3 aa aa) .free aa (aj aa aa aa (ak aa) .free aa (aT aa aa ?_))
      refine kPs (aO sizeOf24 aa aa (by first | rfl | assumption) rfl) rfl ?_;refine ad ?_;refine cN ?_;refine aT aa aa ?_
      refine kPs (aO sizeOf3 aa aa aa aa) aa (ad (cN (aT aa aa (kPs (aO sizeOf36 aa aa aa aa) aa (ad (c7 aa (cy (az ?_))))))))
      have hst:stP p x=(false,IntKind.i64.wrap (x.1+1),x.2.1,[],IntKind.i64.wrap (x.1+1),(cR (tok (dw p) none)).2):=by unfold stP;simp only;rw[if_neg hws,if_neg (by omega),if_pos he0]
      refine aP [6] ?_
      exact wQ fun w hh=>⟨_,⟨by rw[hst],rfl⟩,by rw[hst];exact(by have h1:=((hh.dp [1,1,1]).pk [1,1,1]);exact(jq hrv ((eM hrs h1).pk [1])).pk [1,1])⟩
     ·have he0:(cR (tok (dw p) none)).2=0:=by simpa using h34
      refine ar (aP [1] (t8 fun q3 c3 hq3=> ?_))
      subst hq3
      refine ab (kPv (ah isAgg24 aa aa) aa (kPv (ag isAgg32 sizeOf32 aa aa) aa ?_))
      refine kPb (pE ky (v:=((cR (tok (dw p) none)).1.1,(q3,(cR (tok (dw p) none)).1.2.length,c3),(cR (tok (dw p) none)).1.2)) runUnderlying24 sizeOf32 zeroValue32 ⟨⟨by decide,by decide⟩,rfl⟩ rfl aa) aa fun b39=>(aP [4,0] (cJ aa (ix ky (ys:=[((cR (tok (dw p) none)).1.1,(q3,(cR (tok (dw p) none)).1.2.length,c3),(cR (tok (dw p) none)).1.2)]) aa aa runUnderlying24 runUnderlying24 ⟨_,rfl⟩ sizeOf32 zeroValue32 aa yL aa aa (SlM.row (b:=b39) aa aa) (Nat.succ_pos _) (by simp;omega)) .free aa aa ?_))
      rintro rv2 _ ⟨hrv2,rfl⟩
      refine kPs (aO sizeOf24 aa aa (by first | rfl | assumption) rfl) rfl ?_;refine ad ?_;refine am [2,3,4] rfl ?_
      have hst:stP p x=(true,IntKind.i64.wrap (x.1+1),x.2.1++[(cR (tok (dw p) none)).1],x.2.2):=by unfold stP;simp only;rw[if_neg hws,if_neg (by omega),if_neg (by simpa using he0)]
      refine aP [7] ?_
      exact kg fun w hh=>⟨_,⟨by rw[hst],rfl⟩,by rw[hst];exact(by have h1:=((hh.dp [2,3,3]).pk [3,2,1,1]);have h2:=xI (t:=((cR (tok (dw p) none)).1.1,(q3,(cR (tok (dw p) none)).1.2.length,c3),(cR (tok (dw p) none)).1.2)) h1;exact(jq hrv2 ((eM (hrs.push aa) (h2.pk [1])).pk [1])).pk [1,1])⟩
  rintro _ _ ⟨_,rfl⟩
  simp only[List.cons_append,List.nil_append]
  refine⟨_,_,fun w hh=>hh,j7 (by simp[fO]),fun hp=> ?_,fun c' hc'=> ?_⟩
  rotate_left
  ·obtain⟨h1,rfl⟩:=j6 rfl hc'
   refine az ?_
   have hres:eV s=(itl stP (spl 10 s) p0).2.2.2:=by unfold eV;rw[if_neg (by omega),if_neg (by rw[h1];decide)]
   have hbad:=wf _ _ h1
   exact rt results14 (.at 6 .nil) (.aL aa isAgg24 aa) (.aL aa isAgg3 aa) (.aL aa isAgg36 aa) fun w hh=>⟨_,⟨.slice none 0 0,rfl,by rw[hres],rfl⟩,by rw[hres,hbad];exact pA ((hh.dp [0,0,0,0,0,0,0]))⟩
  have hres:eV s=((itl stP (spl 10 s) p0).2.2.1,0,0):=by unfold eV;rw[if_neg (by omega),if_pos (tP hp)]
  refine aP [2] (wP fun rv hrv=>(ac (ab (kPv (ah isAgg24 aa aa) aa ?_))))
  refine kPs (aO sizeOf24 aa aa (by first | rfl | assumption) rfl) rfl ?_;refine kPs (aO sizeOf3 aa aa aa aa) aa ?_;refine kPs (aO sizeOf36 aa aa aa aa) aa ?_;refine ad ?_;refine am [4,3,2] rfl ?_;refine az ?_
  exact rt results14 (.at 7 (.nil)) (.aL aa isAgg24 aa) (.aL aa isAgg3 aa) (.aL aa isAgg36 aa) (fun w hh=>⟨_,⟨rv,hrv,by rw[hres],rfl⟩,by rw[hres];exact(hh.dp [0,1,1,1,1,1,1])⟩)
def LF(B:World):Prop:=∃ b off cap,B.cell? ⟨0,0,none⟩=some (.slice (some ⟨b,off,none⟩) 18 cap)∧iR B (some ⟨b,off,none⟩) 18 2 (fun k=>[str (fw k),i64 (fm k)])
theorem Do{l:List (List UInt8)}{p:List UInt8}{x:PSt}(h:(stP p x).1=true):itl stP (p::l) x=itl stP l (stP p x).2:=by
 rw[itl,if_pos h]
theorem xE{s:List UInt8}{y:List Cmd×Int×Int}{a:Int}{o:List Cmd}(hs:s.length≤65536)(h:itl stP (spl 10 s) p0=(true,a,o,y)):eV s=(o,0,0):=by
 unfold eV;rw[if_neg (by omega),if_pos (by rw[h]),h]
end Go.Proofs.YtoakdoeajpjgkaaGreatDoor
