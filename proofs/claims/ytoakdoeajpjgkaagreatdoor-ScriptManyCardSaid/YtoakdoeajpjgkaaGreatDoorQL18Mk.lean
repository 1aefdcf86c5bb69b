/- Part of a law's texts. Conditions: none. -/
import Derived.Test.YtoakdoeajpjgkaaGreatDoorQL18Mj
open Go.Proofs.Tryz
set_option linter.all false
namespace Go.Proofs.YtoakdoeajpjgkaaGreatDoor
open Go
theorem qu:∀ (k:Nat) (i:Int) (S S':bB) (s s':Dev),eT S→U64 s→S.todo=[]→jx k i S s= .ok S' s'→eT S'∧U64 s'∧S'.scan=S.scan∧S'.todo=[]∧S'.done=S.done∧S'.b=S.b∧S'.bd=S.bd∧S'.c=S.c∧S'.to_=S.to_∧S.free≤S'.free∧S'.free - S.free+66*(S.b.used.toNat - S'.went.length:Nat)≤66*(S.b.used.toNat - S.went.length:Nat)
 | 0,_,S,S',s,s',h,hu,ht,e=>by cases e;exact⟨h,hu,rfl,ht,rfl,rfl,rfl,rfl,rfl,Int.le_refl _,by omega⟩
 | k+1,i,S,S',s,s',h,hu,ht,e=>by
   unfold jx at e
   split at e
   ·exact qu k _ S S' s s' h hu ht e
   ·obtain⟨r,s1,e1,e⟩:=aG e
    obtain⟨_,s2,e2,e⟩:=aG e
    obtain⟨h1,hv,h2,h3,h4,h5,h6,h7,h8,h9,h10⟩:=lF h e1
    have u1:=jo hu e1
    have u2:=cg u1.1 (by omega) e2
    obtain⟨g1,gu,g2,g3,g4,g5,g6,g7,g8,g9,g10⟩:=qu k _ r.2 S' s2 s' h1 u2.1 (h3.trans ht) e
    rw[h5] at g10
    exact⟨g1,gu,g2.trans h2,g3,g4.trans h4,g5.trans h5,g6.trans h6,g7.trans h7,g8.trans h8,Int.le_trans h9 g9,by omega⟩
theorem pF:∀ (f:Nat) (i e:Int) (s s':Dev) (a:Unit),U64 s→ll f i e s= .ok a s'→U64 s'
 | 0,_,_,s,s',a,h,e=>by cases e;exact h
 | f+1,i,e',s,s',a,h,e=>by
   unfold ll at e
   split at e
   ·obtain⟨_,s1,e1,e⟩:=aG e
    exact pF f _ _ s1 s' a (dF h e1).1 e
   ·cases e;exact h
theorem yt{S:bB}{s s':Dev}{a:Unit}(h:U64 s)(e:S.keep s= .ok a s'):U64 s':=by
 unfold bB.keep at e
 obtain⟨_,s1,e1,e⟩:=aG e
 have h1:=pF _ _ _ _ _ _ h e1
 split at e
 ·exact(eE h1 e).1
 ·cases e;exact h1
theorem qi{S:bB}(h:eT S){s s':Dev}(hu:U64 s){r:Bool×bB}(e:S.step s= .ok r s'):eT r.2∧U64 s'∧r.2.b=S.b∧r.2.bd=S.bd∧r.2.c=S.c∧r.2.to_=S.to_∧r.1=r.2.done∧(r.1=false→r.2.meas<S.meas):=by
 have hwl:=h.wl;have hfb:=h.fb
 unfold bB.step at e
 split at e
 ·rename_i hd;cases e;exact⟨h,hu,rfl,rfl,rfl,rfl,hd.symm,fun hh=>by cases hh⟩
 rename_i hd
 have hd0:S.done=false:=by simpa using hd
 split at e
 ·rename_i w t ht
  obtain⟨r1,s1,e1,e⟩:=aG e
  cases e
  obtain⟨h1,_,h2,h3,h4,h5,h6,h7,h8,h9,h10⟩:=lF h e1
  refine⟨⟨h1.c,h1.b,h1.rl,h1.to_,h1.scan,h1.free,h1.nd,h1.rng,h1.val,fun v hv=>h.todo v (by rw[ht];exact List.mem_cons_of_mem _ hv),h1.rts⟩,(jo hu e1).1,h5,h6,h7,h8,by simp only[h4,hd0],fun _=> ?_⟩
  unfold bB.meas
  simp only[ht,h2,h4,h5,List.length_cons]
  split<;>omega
 ·rename_i ht
  have hub:=pn (s.load S.scan)
  split at e
  ·rename_i hlt
   obtain⟨S1,s1,e1,e⟩:=aG e
   cases e
   obtain⟨h1,gu,h2,h3,h4,h5,h6,h7,h8,h9,h10⟩:=qu _ _ _ _ _ _ h hu ht e1
   have hsc:=h.scan
   refine⟨⟨h1.c,h1.b,h1.rl,h1.to_,⟨by have:=h1.scan;simp only;omega,by simp only;omega⟩,h1.free,h1.nd,h1.rng,h1.val,h1.todo,h1.rts⟩,gu,h5,h6,h7,h8,by simp only[h4,hd0],fun _=> ?_⟩
   unfold bB.meas
   simp only[ht,h2,h3,h4,h5]
   split<;>omega
  ·obtain⟨_,s1,e1,e⟩:=aG e
   cases e
   exact⟨⟨h.c,h.b,h.rl,h.to_,h.scan,h.free,h.nd,h.rng,h.val,h.todo,h.rts⟩,yt hu e1,rfl,rfl,rfl,rfl,rfl,fun hh=>by cases hh⟩
def Cq(x bd:Nat)(sc:Int):HP:=hex fun (y:Nat→Value)=>row x [ptr bd,y 1,y 2,y 3,y 4,y 5,y 6,y 7,i64 sc,y 9,y 10,y 11,y 12] 247
theorem CU{B:World}{x:Nat}{S:bB}{Fr:List HP}{w:World}(h:Holds B (eI x S::Fr) w):Holds B [Cq x S.bd S.scan] w:=by
 obtain⟨p,hx⟩:=h.hex
 refine Holds.unhex (fun i=>(eH S p.1 p.2.1 p.2.2).getD i .nilIface) ?_
 have h2:=hx.grp
 exact h2.map fun k a=>by
  obtain⟨h1,h2,d,s1,s2,ha,hl⟩:=a
  exact⟨h1,h2,d,s1,s2,ha,trivial⟩
instance pj.colf {H Fr:List HP} {x:Nat} {S:bB} [r:oT H (eI x S) Fr]:pj H [Cq x S.bd S.scan]:=⟨fun h hh=>by
 obtain⟨i,h1,h2⟩:=r.get
 obtain⟨k1,k2,d,s1,s2,⟨p,hp⟩,hl⟩:=dw i h1 hh
 obtain⟨g1,g2,d',t1,t2,ha,hg⟩:=hp
 exact⟨g1,fun _=>none,fun _=> .inr aa,t1.trans s1,(fun _ _ e=>nomatch e),⟨fun i=>(eH S p.1 p.2.1 p.2.2).getD i .nilIface,ha⟩,trivial⟩⟩
theorem zf{B:World}{σ:Env}{P:Program}{α:Type}{A:α→HP}{o:Oper}{v:Value}(h:∀ y,Evs P B σ [A y] o v):Evs P B σ [hex A] o v:=fun a w kn hh=>by
 obtain⟨y,hy⟩:=hh.hex
 exact h y a w kn hy
theorem As{B:World}{n:Nat}{D:List Deferred}{σ:Env}{H H0:List HP}{P:Program}{ro:Cx}{K:Act→World→Prop}{X:Ext}{ops:Array Oper}{ms hs cs:List Nat}{ord:List Nat}{c:Bool}(f:∀ w,Holds B H w→Holds B H0 w)(h:GO B n D σ H (wpV P ro ops ms hs cs (Holds B H0) X K ord)):GO B n D σ H (fun a w=>(c=true→Holds B H0 w)∧wpV P ro ops ms hs cs (Holds B H0) X K ord a w):=fun a w s=>⟨fun _=>f w s.holds,h a w s⟩
theorem gh(f:Nat)(i e:Int)(s:Dev):ll (f+1) i e s=if i<e then (s.flush i).then fun _ s'=>ll f (i+8) e s' else .ok () s:=rfl
theorem gP(k:Nat)(i:Int)(S:bB)(s:Dev):jx (k+1) i S s=if s.load (S.scan+1+i)=0 then jx k (i+1) S s else (S.copied s (s.load (S.scan+1+i))).then fun r s1=>(s1.store (S.scan+1+i) r.1).then fun _ s2=>jx k (i+1) r.2 s2:=rfl
theorem iF(f:Nat)(S:bB)(s:Dev):tO (f+1) S s=(S.step s).then fun r s'=>if r.1=true then .ok r.2 s' else tO f r.2 s':=rfl
theorem zw(B:World)(Fr:List HP)(x:Nat)(S:bB)(hS:eT S)(s:Dev)(hu:U64 s):
 ∀ w,Holds B (eI x S::az S.bd s::Fr) w→Calls Tryz.prog 203 [ptr x].toArray w (Ret B (fun rv H'=>∃ r s',S.keep s= .ok r s'∧rv=A6 r∧H'=eI x {S with done:=true}::az S.bd s'::Fr) (fun c H'=>∃ s',S.keep s= .off s'∧c=dN∧H'=az S.bd s'::Fr)):=by
 refine ap func203 aa ntmps203 aa (jj fun rsv tsv mw hrsv htsv=> ?_)
 have hfb:=hS.fb
 have hfr:=hS.free
 have hto:=hS.to_
 refine ac (ac (ab (kPf oy isAgg3 aa aa aa aa (kPa aa aa (ad (aK ?_))))))
 refine c6 (ι:=Int×Nat×Dev) [0] (fun (i,n,sI)=>(S.to_≤i∧i≤400000)∧(S.free - i≤n)∧(ll ((S.free - S.to_).toNat+1) S.to_ S.free s=ll (n+1) i S.free sI)) (fun (i,n,sI)=>[(2,i64 i)]) (fun (i,n,sI)=>row x (eH S rsv tsv mw) 247::cN 0 (rsv,S.b.rts)::cN 0 (tsv,S.todo)::bi .u64 i64 mw S.went::az S.bd sI::Fr) (fun (i,n,sI)=>n) (S.to_,(S.free - S.to_).toNat,s) (⟨⟨by first | omega | (simp only;omega),by first | omega | (simp only;omega)⟩,by first | omega | (simp only;omega),rfl⟩) (fun a w st=>st.to ⟨rfl,trivial⟩ (fun hh=>hh)) ?_
 rintro⟨i,n,sI⟩ ⟨hi0,hn,hinv⟩
 try simp only at hi0 hn hinv ⊢
 refine cB (σ':=[(2,i64 i),(0,_)]) ⟨rfl,rfl,trivial⟩ (ac (ac (ab (kPm aa aa (kPf gZ isAgg3 aa aa aa aa (kPv (am aa aa aa) aa (ad ?_)))))))
 refine ba aa (fun h12=> ?_) (fun h12=> ?_)
 ·have hlt:i<S.free:=by simpa using h12
  refine aq (ac (aK (ab (kPf gx isAgg90 aa aa aa aa (kPm aa aa ?_)))))
  refine aS aa (ar call151 aa) (cy (fun Fr=>dx _ Fr _ _ _)) .free aa aa ?_ ?_
  rotate_left
  ·rintro _ _ ⟨s9,⟨hm9,rfl⟩,rfl⟩
   exact a8 fun w hh=>⟨_,⟨s9,by unfold bB.keep;rw[hinv,gh,if_pos hlt,hm9];rfl,rfl,rfl⟩,(hh.dp [0,0,0,0])⟩
  rintro _ _ ⟨s1,⟨e1,hm1,rfl⟩,rfl⟩
  refine ad (ao [2,0] rfl (ab (kPm aa aa (kPv (aN aa aa) aa (kPa aa aa (ad ?_))))))
  exact fun a w st_=>⟨(i+8,n - 1,s1),⟨by first | omega | (simp only;omega),by first | omega | (simp only;omega),by rw[hinv,gh,if_pos hlt,hm1,show n=n - 1+1 by omega];rfl⟩,by first | omega | (simp only;omega),st_.to ⟨rfl,rfl,trivial⟩ (fun hh=>hh)⟩
 ·have hlt:¬ i<S.free:=by simpa using h12
  refine bD (ac (ac (cL Tryz.mixed (by kernel_rfl) (by kernel_rfl) ?_)))
  refine kQm aa aa (kQv (aJ aa) aa (kQv (aF (m:=_) gZ aa aa) aa (kQv (ai isAgg3 aa aa) aa (kQm aa aa (kQv (aJ aa) aa (kQv (aF (m:=_) oy aa aa) aa (kQv (ai isAgg3 aa aa) aa (kQv (am aa aa aa) aa (bU (ao [29,0] rfl ?_))))))))))
  refine ba aa (fun h29=> ?_) (fun h29=> ?_)
  ·have hgt:S.to_<S.free:=by simpa using h29
   refine ab (kPf gx isAgg90 aa aa aa aa ?_)
   refine aS aa (ar call152 aa) (cy (fun Fr=>eD _ Fr _ _)) .free aa aa ?_ ?_
   rotate_left
   ·rintro _ _ ⟨s9,⟨hm9,rfl⟩,rfl⟩
    exact a8 fun w hh=>⟨_,⟨s9,by unfold bB.keep;rw[hinv,gh,if_neg hlt];simp only[aQ];rw[if_pos hgt];exact hm9,rfl,rfl⟩,(hh.dp [0,0,0,0])⟩
   rintro _ _ ⟨s2,⟨e2,hm2,rfl⟩,rfl⟩
   refine ad (ab (kPm aa aa (kPv (aJ aa) aa (kPv (aF (m:=_) gY aa aa) aa (kPs (aO sizeOf4 aa aa aa aa) aa (ad (ao [] rfl ?_)))))))
   exact cJ results203 (fun w hh=>⟨_,⟨(),_,by unfold bB.keep;rw[hinv,gh,if_neg hlt];simp only[aQ];rw[if_pos hgt];exact hm2,rfl,rfl⟩,cu (S:={S with done:=true}) hrsv htsv hh⟩)
  ·have hgt:¬ S.to_<S.free:=by simpa using h29
   refine aq (ab (kPm aa aa (kPv (aJ aa) aa (kPv (aF (m:=_) gY aa aa) aa (kPs (aO sizeOf4 aa aa aa aa) aa (ad ?_))))))
   exact cJ results203 (fun w hh=>⟨_,⟨(),_,by unfold bB.keep;rw[hinv,gh,if_neg hlt];simp only[aQ];rw[if_neg hgt],rfl,rfl⟩,cu (S:={S with done:=true}) hrsv htsv hh⟩)
theorem sT(B:World)(Fr:List HP)(x:Nat)(S:bB)(v:Int):
 ∀ w,Holds B (eI x S::Fr) w→Calls Tryz.prog 118 [ptr x,w64 v].toArray w (aZ B (eI x S::Fr) (i64 ((bI S.went v).getD 0))):=by
 refine ap func118 aa ntmps118 aa (jj fun rsv tsv mw hrsv htsv=>(ac (ab (kPa aa aa (ad (ac (ab (kPf lv isAgg245 aa aa aa aa (kPm aa aa (kPv ((kN runUnderlying245 runUnderlying25 zeroValue3 aa aa).eq (nS _)) aa (kPa aa aa ?_)))))))))))
 refine ad (ao [4] rfl (aB ?_))
 exact aw results118 aa (fun w hh=>⟨rfl,cu hrsv htsv hh⟩)
theorem oF(B:World)(Fr:List HP)(x:Nat)(S:bB)(hS:eT S)(s:Dev)(hu:U64 s):
 ∀ w,Holds B (eI x S::az S.bd s::Fr) w→Calls Tryz.prog 166 [ptr x].toArray w (Ret B (fun rv H'=>∃ r s',S.step s= .ok r s'∧rv= .bool r.1∧H'=eI x r.2::az S.bd s'::Fr) (fun c H'=>∃ s',S.step s= .off s'∧c=dN∧H'=az S.bd s'::Fr)):=by
 refine ap func166 aa ntmps166 aa (jj fun rsv tsv mw hrsv htsv=> ?_)
 have hfb:=hS.fb
 have hfr:=hS.free
 have hto:=hS.to_
 have hscan:=hS.scan
 have hub:=pn (s.load S.scan)
 refine ac (ab (kPa aa aa (ad (ac (aK (ac (ab (kPf gY isAgg4 aa aa aa aa (kPa aa aa (ad ?_))))))))))
 refine ba aa (fun h9=> ?_) (fun h9=> ?_)
 ·have hdone:S.done=true:=h9
  have hres:S.step s= .ok (true,S) s:=by unfold bB.step;rw[if_pos hdone]
  refine aq (ac (ab (kPf gY isAgg4 aa aa aa aa (kPa aa aa (ad (ao [2] rfl (aB ?_)))))))
  exact aw results166 aa (fun w hh=>⟨_,⟨_,_,hres,by rw[hdone],rfl⟩,cu hrsv htsv hh⟩)
 ·have hdone:S.done=false:=h9
  refine aU [2] (cx fun qt ct hqt hqi=> ?_)
  subst hqt
  refine aU [1,1,0,0] (ac (ab (kPf lx isAgg30 aa aa aa aa (kPv (bH aa runUnderlying30 ⟨_,rfl⟩ rfl) aa (kPv (am aa aa aa) aa (kPa aa aa (ad (ao [14,2,0] rfl ?_))))))))
  refine ba aa (fun h14=> ?_) (fun h14=> ?_)
  ·obtain⟨v,t,htd⟩:∃ v t,S.todo=v::t:=by
    cases ht:S.todo with
    | nil=>rw[ht] at h14;simp at h14
    | cons v t=>exact⟨v,t,rfl⟩
   obtain⟨bq,oq,rfl⟩:=hqi 0 (by rw[htd];exact Nat.succ_pos _)
   refine ac (ab (kPm aa aa (kPf lx isAgg30 aa aa aa aa (kPv (cA runUnderlying30 sizeOf25 aa aa (by decide) (by rw[htd];simp only[List.length_cons];omega)) aa (kPv (cj (v:=w64 v) isAgg25 (cH 2 aa) aa (by rw[htd];rfl)) aa (aM (fun w hh=>cu hrsv htsv hh) ?_))))))
   refine aS aa (ar call202 aa) (oM B _ x S hS s hu v (hS.todo _ (by rw[htd];exact List.mem_cons_self ..))) .free aa aa ?_ ?_
   rotate_left
   ·rintro _ _ ⟨s9,hm9,rfl,rfl⟩
    exact a8 fun w hh=>⟨_,⟨s9,by unfold bB.step;rw[if_neg (by rw[hdone];decide)];simp only[htd];rw[hm9];rfl,rfl,rfl⟩,hh⟩
   rintro _ _ ⟨r1,s1,hm1,rfl,rfl⟩
   obtain⟨hS1,hrv1,hsc1,htd1,hdn1,hb1,hbd1,hc1,hto1,hfr1,hms1⟩:=lF hS hm1
   have hu1:=(jo hu hm1).1
   refine ad (ao [2,0] rfl (ab (jj fun rsv2 tsv2 mw2 hrsv2 htsv2=>(kPm aa aa (kPm aa aa (kPv (aJ aa) aa (kPv (aF (m:=_) lx aa aa) aa (aU [2] (aM (H':=cN 0 (tsv2,v::t)::_) (fun w hh=>by rw[htd1,htd] at hh;exact hh) (kPv (ai isAgg30 aa aa) aa (cP aa (tg (v:=v) (xs:=t) runUnderlying30 sizeOf25 aa aa) .free aa aa ?_)))))))))))
   rintro tv3 _ ⟨htv3,rfl⟩
   refine aU [1,1] (kPv (aJ aa) aa (kPv (aF (m:=_) lx aa aa) aa ?_))
   refine kPs (aO sizeOf30 aa aa (by first | rfl | assumption) rfl) rfl ?_;refine ad ?_;refine ao [2,0] rfl ?_;refine ac ?_;refine ab ?_;refine kPf gY isAgg4 aa aa aa aa ?_;refine kPa aa aa ?_;refine ad ?_;refine aB ?_
   exact aw results166 aa (fun w hh=>⟨_,⟨_,_,by unfold bB.step;rw[if_neg (by rw[hdone];decide)];simp only[htd];rw[hm1];rfl,by rw[hdn1,hdone],rfl⟩,cu (S:={r1.2 with todo:=t}) hrsv2 htv3 hh⟩)
  ·have htd:S.todo=[]:=by
    cases ht:S.todo with
    | nil=>rfl
    | cons v t=>rw[ht] at h14;simp at h14<;>omega
   refine ac (cL Tryz.mixed (by kernel_rfl) (by kernel_rfl) ?_)
   refine kQm aa aa (kQv (aJ aa) aa (kQv (aF (m:=_) iK aa aa) aa (kQv (ai isAgg3 aa aa) aa (kQm aa aa (kQv (aJ aa) aa (kQv (aF (m:=_) gZ aa aa) aa (kQv (ai isAgg3 aa aa) aa (kQv (am aa aa aa) aa (kQa aa aa (bU (ao [37,2,0] rfl ?_)))))))))))
   refine ba aa (fun h37=> ?_) (fun h37=> ?_)
   ·have hlt:S.scan<S.free:=by simpa using h37
    have hstep:S.step s=(jx (unp (s.load S.scan)).2.1.toNat 0 S s).then fun S' s'=> .ok (false,{S' with scan:=S'.scan+((unp (s.load S.scan)).1+1)}) s':=by unfold bB.step;rw[if_neg (by rw[hdone];decide)];simp only[htd];rw[if_pos hlt]
    refine ac ?_
    refine ku (.br [0,1,2,3,4,5,6,7] 8 (.br [] 9 (.fin [10,11,12,13,14,15]) 13 (.fin [9,10,11,12,14,15])) 13 (.fin [8,9,10,11,12,14,15])) [8,9,13,14] [0,1,2,3,4,5,6,7,10,11,12] [13,14] [row x (eH S rsv (.slice qt S.todo.length ct) mw) 247] [2,0] (G:=Nat) (fun b3=>[(3,ptr b3),(4,.bool (unp (s.load S.scan)).2.2)]) (fun b3=>row b3 [i64 (unp (s.load S.scan)).1,i64 (unp (s.load S.scan)).2.1] 102::row x (eH S rsv (.slice qt S.todo.length ct) mw) 247::cN 0 (rsv,S.b.rts)::cN 0 (.slice qt S.todo.length ct,S.todo)::bi .u64 i64 mw S.went::az S.bd s::Fr) Tryz.mixed (by kernel_rfl) ?_ ?_
    ·skip
     refine wm (an aa aa aa (ak aa) .free aa (an aa aa aa (aJ aa) .free aa (an aa aa aa (aF (m:=_) gx aa aa) .free aa (an aa aa aa (ai isAgg90 aa aa) .free aa (an aa aa aa (ak aa) .free aa (an aa aa aa (aJ aa) .free aa (an aa aa aa (aF (m:=_) iK aa aa) .free aa (an aa aa aa (ai isAgg3 aa aa) .free aa (cC ?_)))))))))
     refine po aa aa ?_ ?_
     ·skip
      refine ax aa (ar call173 aa) (bF (q:=az) (fun Fr=>cf _ Fr _ _ _)) .free aa aa ?_
      refine ad (rq aa (wm (cC ?_)))
      refine po aa aa ?_ ?_
      ·skip
       refine ax aa (ar call190 aa) (iC _ _ _) .free aa aa ?_
       refine ad (rq aa (jw (an aa aa aa (ak aa) .free aa (an aa aa aa (aA aa aa) .free aa (an aa aa aa (aA aa aa) .free aa (aR aa aa (kPb (aE zeroValue102 aa) aa fun b3=>(ad (cK (aR aa aa (kPs (ay (vs:=_) sizeOf102 aa aa aa aa aa) aa ?_)))))))))))
       refine ad (cK (aV aa aa aa (bA aa) .free aa (cC ?_)))
       exact fun a w st_=>⟨b3,st_.to (aC aa) (fun hh=>hh)⟩
      ·skip
       refine kPb (aE zeroValue102 aa) aa fun b3=>(ad (tF (jw (aR aa aa (ax aa (ar call190 aa) (iC _ _ _) .free aa aa ?_)))))
       refine ad (cU aa (an aa aa aa (ak aa) .free aa (an aa aa aa (aA aa aa) .free aa (an aa aa aa (aA aa aa) .free aa (aR aa aa (kPs (ay (vs:=_) sizeOf102 aa aa aa aa aa) aa (ad (cK (aV aa aa aa (bA aa) .free aa (cC ?_))))))))))
       exact fun a w st_=>⟨b3,st_.to (aC aa) (fun hh=>hh)⟩
     ·skip
      refine kPb (aE zeroValue102 aa) aa fun b3=>(ad (tF (jw (aR aa aa (ax aa (ar call173 aa) (bF (q:=az) (fun Fr=>cf _ Fr _ _ _)) .free aa aa ?_)))))
      refine ad (cU aa (aR aa aa (ax aa (ar call190 aa) (iC _ _ _) .free aa aa ?_)))
      refine ad (cU aa (an aa aa aa (ak aa) .free aa (an aa aa aa (aA aa aa) .free aa (an aa aa aa (aA aa aa) .free aa (aR aa aa (kPs (ay (vs:=_) sizeOf102 aa aa aa aa aa) aa (ad (cK (aV aa aa aa (bA aa) .free aa (cC ?_))))))))))
      exact fun a w st_=>⟨b3,st_.to (aC aa) (fun hh=>hh)⟩
    intro b3
    refine cB (σ':=[(3,ptr b3),(4,.bool (unp (s.load S.scan)).2.2),(2,_),(0,_)]) (aC aa) (ac (ac (aU [1,1,1,1] (aM (fun w hh=>cu hrsv htsv hh) (ab (kPl fO isAgg3 aa aa aa aa (kPm aa aa (ad (aK ?_)))))))))
    refine c6 (ι:=Nat×bB×Dev) [61,3,2,0] (fun (i,SI,sI)=>((i:Int)≤(unp (s.load S.scan)).2.1)∧(eT SI)∧(U64 sI)∧(SI.todo=[])∧(SI.done=S.done)∧(SI.bd=S.bd)∧(SI.scan=S.scan)∧(jx (unp (s.load S.scan)).2.1.toNat 0 S s=jx ((unp (s.load S.scan)).2.1.toNat - i) i SI sI)) (fun (i,SI,sI)=>[(62,i64 i)]) (fun (i,SI,sI)=>row b3 [i64 (unp (s.load S.scan)).1,i64 (unp (s.load S.scan)).2.1] 102::eI x SI::az SI.bd sI::Fr) (fun (i,SI,sI)=>(unp (s.load S.scan)).2.1.toNat - i) (0,S,s) (⟨by first | omega | (simp only;omega),hS,hu,htd,rfl,rfl,rfl,rfl⟩) (fun a w st=>st.to ⟨rfl,trivial⟩ (fun hh=>(hh.pk [1]))) ?_
    rintro⟨i,SI,sI⟩ ⟨hi0,hSI,huI,htdI,hdI,hbdI,hscI0,hinv⟩
    try simp only at hi0 hSI huI htdI hdI hbdI hscI0 hinv ⊢
    refine cB (σ':=[(62,i64 i),(61,_),(3,_),(2,_),(0,_)]) (aC aa) (ac (ab (kPv (am aa aa aa) aa (ad (ac ?_)))))
    refine ba aa (fun h63=> ?_) (fun h63=> ?_)
    ·have hi:(i:Int)<(unp (s.load S.scan)).2.1:=by simpa using h63
     have hscI:=hSI.scan
     refine aq (ac (aK (ac (ab (kPm aa aa (kPa aa aa (ad (ac (aU [1] (jj fun rsv2 tsv2 mw2 hrsv2 htsv2=>(cL Tryz.mixed (by kernel_rfl) (by kernel_rfl) ?_)))))))))))
     refine kQm aa aa (kQv (aJ aa) aa (kQv (aF (m:=_) gx aa aa) aa (kQv (ai isAgg90 aa aa) aa (kQm aa aa (kQv (aJ aa) aa (kQv (aF (m:=_) iK aa aa) aa (kQv (ai isAgg3 aa aa) aa (kQv (aN aa aa) aa (kQm aa aa (kQv (aN aa aa) aa (bC aa (ar call173 aa) (bF (q:=az) (fun Fr=>cf _ Fr _ _ _)) .free aa ?_)))))))))))
     refine kQa aa aa (bU (ao [6,5,62,61,3,2,0] rfl (ac (aM (fun w hh=>cu hrsv2 htsv2 hh) (ab (kPm aa aa (kPv (am aa aa aa) aa (ad ?_))))))))
     refine ba aa (fun h78=> ?_) (fun h78=> ?_)
     ·have hne:¬ sI.load (SI.scan+1+i)=0:=by simpa using h78
      refine aU [0,1] (aM (fun w hh=>hh) (cM [0,1,2,3,4,5,6,7,8,9,10,11,12,13,14,15] [13,15] [0,1,2,3,4,5,6,7,8,9,10] [13] [Cq x SI.bd SI.scan] Tryz.mixed (by kernel_rfl) ?_))
      refine an aa aa aa (ak aa) .free aa (an aa aa aa (aJ aa) .free aa (an aa aa aa (aF (m:=_) gx aa aa) .free aa (an aa aa aa (zf fun y=>ai isAgg90 aa aa) .free aa (an aa aa aa (ak aa) .free aa (an aa aa aa (aJ aa) .free aa (an aa aa aa (aF (m:=_) iK aa aa) .free aa (an aa aa aa (zf fun y=>ai isAgg3 aa aa) .free aa (an aa aa aa (aN aa aa) .free aa (an aa aa aa (ak aa) .free aa (an aa aa aa (aN aa aa) .free aa (aV aa aa aa (ak aa) .free aa ?_)))))))))))
      refine aV aa aa aa (ak aa) .free aa (aR aa aa ?_)
      refine aS aa (ar call202 aa) (oM B _ x SI hSI sI huI (sI.load (SI.scan+1+i)) (huI.load _)) .free aa aa ?_ ?_
      rotate_left
      ·rintro _ _ ⟨s9,hm9,rfl,rfl⟩
       exact a8 fun w hh=>⟨_,⟨s9,by rw[hstep,hinv,show(unp (s.load S.scan)).2.1.toNat - i=((unp (s.load S.scan)).2.1.toNat - (i+1))+1 by omega,gP,if_neg hne,hm9];rfl,rfl,rfl⟩,by rw[←hbdI];exact hh.dp [1]⟩
      rintro _ _ ⟨r2,s2,hm2,rfl,rfl⟩
      obtain⟨hS2,hrv2,hsc2,htd2,hdn2,hb2,hbd2,hc2,hto2,hfr2,hms2⟩:=lF hSI hm2
      have hu2:=(jo huI hm2).1
      refine ad (As (fun w hh=>by have h5:=CU hh;rw[hbd2,hsc2] at h5;exact h5) (aV aa aa aa (c7 runUnderlying3 runUnderlying25 aa (fD (by omega))) .free aa (aR aa aa ?_)))
      refine aS aa (ar call145 aa) (cy (fun Fr=>cm _ Fr _ _ _ _)) .free aa aa ?_ ?_
      rotate_left
      ·rintro _ _ ⟨s9,⟨hm9,rfl⟩,rfl⟩
       exact a8 fun w hh=>⟨_,⟨s9,by rw[hstep,hinv,show(unp (s.load S.scan)).2.1.toNat - i=((unp (s.load S.scan)).2.1.toNat - (i+1))+1 by omega,gP,if_neg hne,hm2];simp only[aQ];rw[hm9];rfl,rfl,rfl⟩,by rw[←hbdI];exact(hh.dp [0,1])⟩
      rintro _ _ ⟨s3,⟨e3,hm3,rfl⟩,rfl⟩
      refine ad (cU aa (cC (ao [62,61,3,2,0] rfl (ab (kPv (aN aa aa) aa (kPm aa aa (ad ?_)))))))
      exact fun a w st_=>⟨(i+1,r2.2,s3),⟨by first | omega | (simp only;omega),hS2,(cg hu2 (by omega) hm3).1,htd2.trans htdI,hdn2.trans hdI,hbd2.trans hbdI,hsc2.trans hscI0,by rw[hinv,show(unp (s.load S.scan)).2.1.toNat - i=((unp (s.load S.scan)).2.1.toNat - (i+1))+1 by omega,gP,if_neg hne,hm2];simp only[aQ];rw[hm3];rfl⟩,by first | omega | (simp only;omega),st_.to (aC aa) (fun hh=>(by first | exact(hh.pk [2]) | (simp only[hbd2];exact(hh.pk [2]))))⟩
     ·have hne:sI.load (SI.scan+1+i)=0:=by simpa using h78
      refine aq (ab (kPv (aN aa aa) aa (kPm aa aa (ad ?_))))
      exact fun a w st_=>⟨(i+1,SI,sI),⟨by first | omega | (simp only;omega),hSI,huI,htdI,hdI,hbdI,hscI0,by rw[hinv,show(unp (s.load S.scan)).2.1.toNat - i=((unp (s.load S.scan)).2.1.toNat - (i+1))+1 by omega,gP,if_pos hne];rfl⟩,by first | omega | (simp only;omega),st_.to (aC aa) (fun hh=>(by first | exact(hh.pk [1]) | (simp only[hbd2];exact(hh.pk [1]))))⟩
    ·have hi:¬ (i:Int)<(unp (s.load S.scan)).2.1:=by simpa using h63
     have hscI:=hSI.scan
     refine bD (aU [1] (jj fun rsv3 tsv3 mw3 hrsv3 htsv3=>(cQ 9 Tryz.mixed (by kernel_rfl) (by kernel_rfl) ?_)))
     refine kQm aa aa (kQv (aJ aa) aa (kQv (aF (m:=_) iK aa aa) aa (kQv (ai isAgg3 aa aa) aa (kQv (ah isAgg102 sizeOf102 aa aa) aa ?_))))
     refine bC aa (ar call139 aa) (et _ _ _ _ (by omega)) .free aa ?_
     refine kQv (aN aa aa) aa (kQv (aJ aa) aa (kQv (aF (m:=_) iK aa aa) aa (bU (kPs (aO sizeOf3 aa aa aa aa) aa (ad (ao [2,0] rfl (ac (ab (kPf gY isAgg4 aa aa aa aa (kPa aa aa (ad ?_)))))))))))
     refine aB ?_
     exact aw results166 aa (fun w hh=>⟨_,⟨_,_,by rw[hstep,hinv,show(unp (s.load S.scan)).2.1.toNat - i=0 by omega];rfl,by rw[hdI,hdone],rfl⟩,by rw[←hbdI];exact cu (S:={SI with scan:=SI.scan+((unp (s.load S.scan)).1+1)}) hrsv3 htsv3 (hh.dp [4])⟩)
   ·have hlt:¬ S.scan<S.free:=by simpa using h37
    refine aM (fun w hh=>cu hrsv htsv hh) (ab (kPm aa aa ?_))
    refine aS aa (ar call203 aa) (zw B _ x S hS s hu) .free aa aa ?_ ?_
    rotate_left
    ·rintro _ _ ⟨s9,hm9,rfl,rfl⟩
     exact a8 fun w hh=>⟨_,⟨s9,by unfold bB.step;rw[if_neg (by rw[hdone];decide)];simp only[htd];rw[if_neg hlt,hm9];rfl,rfl,rfl⟩,hh⟩
    rintro _ _ ⟨r1,s1,hm1,rfl,rfl⟩
    refine jj fun rsv4 tsv4 mw4 hrsv4 htsv4=>(ad (ac (ab (kPf gY isAgg4 aa aa aa aa (kPa aa aa (ad (ao [2] rfl (aB ?_))))))))
    exact aw results166 aa (fun w hh=>⟨_,⟨(true,{S with done:=true}),s1,by unfold bB.step;rw[if_neg (by rw[hdone];decide)];simp only[htd];rw[if_neg hlt,hm1];rfl,rfl,rfl⟩,cu (S:={S with done:=true}) hrsv4 htsv4 hh⟩)
theorem nA:∀ (f:Nat) (S S':bB) (s s':Dev),eT S→U64 s→tO f S s= .ok S' s'→eT S'∧U64 s'∧S'.b=S.b∧S'.bd=S.bd∧S'.c=S.c∧S'.to_=S.to_
 | 0,S,S',s,s',h,hu,e=>by cases e;exact⟨h,hu,rfl,rfl,rfl,rfl⟩
 | f+1,S,S',s,s',h,hu,e=>by
   rw[iF] at e
   obtain⟨r,s1,e1,e⟩:=aG e
   obtain⟨h1,u1,g1,g2,g3,g4,_⟩:=qi h hu e1
   split at e
   ·cases e;exact⟨h1,u1,g1,g2,g3,g4⟩
   ·obtain⟨k1,k2,k3,k4,k5,k6⟩:=nA f _ _ _ _ h1 u1 e
    exact⟨k1,k2,k3.trans g1,k4.trans g2,k5.trans g3,k6.trans g4⟩
theorem o9{α β:Type}{f:α→β}{l:List α}{k:Nat}(hk:k<l.length):(l.take (k+1)).map f=(l.take k).map f++[f l[k]]:=by
 rw[List.take_succ_eq_append_getElem hk,List.map_append];rfl
theorem lj{bd:Nat}{c:Cfg}{b:Blk}{ws:List Int}(hc:bj c)(hb:fS c b)(hl:b.rts.length≤16)(hr:∀ v∈b.rts,0≤v∧v<18446744073709551616)(hw:∀ v∈ws,0≤v∧v<18446744073709551616):eT (dY bd c b ws):=by
 have h1:=hb.act
 have h2:=ip hc (k:=1 - b.act) (by omega)
 have h3:=hc.s1
 have h4:0≤c.frm (1 - b.act)∧c.frm (1 - b.act)≤20000:=by omega
 exact⟨hc,hb,hl,h4,⟨Int.le_refl _,by unfold dY;simp only;omega⟩,⟨Int.le_refl _,by simp[dY]⟩,List.nodup_nil,fun _ h=>(by cases h),fun _ h=>(by cases h),hw,hr⟩
theorem vV(B:World)(Fr:List HP)(x:Nat)(S:bB)(hS:eT S)(s:Dev)(hu:U64 s):
 ∀ w,Holds B (eI x S::az S.bd s::Fr) w→Calls Tryz.prog 135 [ptr x].toArray w (Ret B (fun rv H'=>∃ r s',S.run s= .ok r s'∧rv= .tuple #[]∧H'=eI x r::az S.bd s'::Fr) (fun c H'=>∃ s',S.run s= .off s'∧c=dN∧H'=az S.bd s'::Fr)):=by
 refine ap func135 aa ntmps135 aa (aK (c6 (ι:=Nat×bB×Dev) [0] (fun (n,SI,sI)=>(SI.meas<n)∧(eT SI)∧(U64 sI)∧(SI.bd=S.bd)∧(tO (S.meas+1) S s=tO n SI sI)) (fun (n,SI,sI)=>[]) (fun (n,SI,sI)=>eI x SI::az SI.bd sI::Fr) (fun (n,SI,sI)=>n) (S.meas+1,S,s) (⟨Nat.lt_succ_self _,hS,hu,rfl,rfl⟩) (fun a w st=>st.to trivial (fun hh=>hh)) ?_))
 rintro⟨n,SI,sI⟩ ⟨hn,hSI,huI,hbdI,hinv⟩
 try simp only at hn hSI huI hbdI hinv ⊢
 refine cB (σ':=[(0,_)]) ⟨rfl,trivial⟩ (ac (ac (ab (kPm aa aa ?_))))
 refine aS aa (ar call166 aa) (oF B _ x SI hSI sI huI) .free aa aa ?_ ?_
 rotate_left
 ·rintro _ _ ⟨s9,hm9,rfl,rfl⟩
  exact a8 fun w hh=>⟨_,⟨s9,by unfold bB.run;rw[hinv,show n=n - 1+1 by omega,iF,hm9];rfl,rfl,rfl⟩,by rw[←hbdI];exact hh⟩
 rintro _ _ ⟨r1,s1,hm1,rfl,rfl⟩
 obtain⟨hS1,hu1,hb1,hbd1,hc1,hto1,hr1,hms1⟩:=qi hSI huI hm1
 refine kPv (bu aa) aa (ad ?_)
 refine ba aa (fun h4=> ?_) (fun h4=> ?_)
 ·have hg:r1.1=false:=by simpa using h4
  refine aq (aK (aq ?_))
  exact fun a w st_=>⟨(n - 1,r1.2,s1),⟨by have:=hms1 hg;first | omega | (simp only;omega),hS1,hu1,hbd1.trans hbdI,by rw[hinv,show n=n - 1+1 by omega,iF,hm1];simp only[aQ];rw[if_neg (by rw[hg];decide)];rfl⟩,by first | omega | (simp only;omega),st_.to ⟨rfl,trivial⟩ (fun hh=>(by simp only[hbd1];exact hh))⟩
 ·have hg:r1.1=true:=by simpa using h4
  refine bD ?_
  exact cJ results135 (fun w hh=>⟨_,⟨_,_,by unfold bB.run;rw[hinv,show n=n - 1+1 by omega,iF,hm1];simp only[aQ];rw[if_pos hg],rfl,rfl⟩,by rw[←hbdI];exact hh⟩)
theorem l3(B:World)(Fr:List HP)(x:Nat)(S:bB)(hS:eT S):
 ∀ w,Holds B (eI x S::Fr) w→Calls Tryz.prog 167 [ptr x].toArray w (Ret B (fun rv H'=>∃ sv,aL sv=true∧rv=kR S.block sv∧H'=cN 0 (sv,S.block.rts)::eI x S::Fr) (fun _ _=>False)):=by
 refine ap func167 aa ntmps167 aa ?_
 have hfb:=hS.fb
 have hfr:=hS.free
 have hto:=hS.to_
 have hba:=hS.b.act
 have hrl:=hS.rl
 refine ac (ab (kPb (aE zeroValue151 aa) aa fun b2=>(ad (ac (aU [1] (jj fun rsv tsv mw hrsv htsv=> ?_))))))
 refine ku (.fin [0,1,2,3,4,5,6,7,8,9,10,11,12,13,14,15,16,17]) [16,17] [0,1,2,3,4,5,6,7,8,9,10,11,12,13,14,15] [16] [row x (eH S rsv tsv mw) 247] [2,0] (G:=Nat) (fun b3=>[(3,ptr b3)]) (fun b3=>row b3 [i64 (1 - S.b.act),i64 (S.free - S.to_),.slice none 0 0] 151::row x (eH S rsv tsv mw) 247::cN 0 (rsv,S.b.rts)::cN 0 (tsv,S.todo)::bi .u64 i64 mw S.went::row b2 [i64 0,i64 0,.slice none 0 0] 151::Fr) Tryz.mixed (by kernel_rfl) ?_ ?_
 ·skip
  refine jw (an aa aa aa (ak aa) .free aa (an aa aa aa (aJ aa) .free aa (an aa aa aa (aF (m:=_) ly aa aa) .free aa (an aa aa aa (aF (m:=_) hJ aa aa) .free aa (an aa aa aa (ai isAgg3 aa aa) .free aa (an aa aa aa (eV aa aa) .free aa (an aa aa aa (ak aa) .free aa (an aa aa aa (aJ aa) .free aa (an aa aa aa (aF (m:=_) gZ aa aa) .free aa (an aa aa aa (ai isAgg3 aa aa) .free aa (an aa aa aa (ak aa) .free aa ?_)))))))))))
  refine an aa aa aa (aJ aa) .free aa (an aa aa aa (aF (m:=_) oy aa aa) .free aa (an aa aa aa (ai isAgg3 aa aa) .free aa (an aa aa aa (eV aa aa) .free aa (an aa aa aa (aP aa (mB _ _ aa aa)) .free aa (aR aa aa (kPb (aE zeroValue151 aa) aa fun b3=>(ad (cK (aR aa aa ?_)))))))))
  refine kPs (ay (vs:=_) sizeOf151 aa aa aa (by first | rfl | exact eC (by assumption)) rfl) rfl ?_;refine ad ?_;refine cU aa ?_;refine cC ?_
  exact fun a w st_=>⟨b3,st_.to (aC aa) (fun hh=>hh)⟩
 intro b3
 refine cB (σ':=[(3,ptr b3),(2,_),(0,_)]) (aC aa) (ac (ac (aU [2] (cx fun qr cr hqr hqi=> ?_))))
 subst hqr
 refine aU [1,1,0,0,0,0] (aM (fun w hh=>eU (T:=25) (enc:=w64) hh) (ab (kPm aa aa (kPv (aJ aa) aa (kPv (aF (m:=_) ly aa aa) aa (kPl eP isAgg30 aa aa aa aa (kPv (bH aa runUnderlying30 ⟨_,rfl⟩ rfl) aa (kPm aa aa (ad (aK (c6 (ι:=Nat×Value) [27,26,3,2,0] (fun (k,bv)=>(k≤S.b.rts.length)∧(aL bv=true)) (fun (k,bv)=>[(28,i64 k)]) (fun (k,bv)=>cN 0 (bv,(S.b.rts.take k).map (fun w=>(bI S.went w).getD 0))::row b3 [i64 (1 - S.b.act),i64 (S.free - S.to_),bv] 151::row x (eH S (.slice qr S.b.rts.length cr) tsv mw) 247::cN 0 (.slice qr S.b.rts.length cr,S.b.rts)::cN 0 (tsv,S.todo)::bi .u64 i64 mw S.went::row b2 [i64 0,i64 0,.slice none 0 0] 151::Fr) (fun (k,bv)=>S.b.rts.length - k) (0,.slice none 0 0) (⟨Nat.zero_le _,rfl⟩) (fun a w st=>st.to ⟨rfl,trivial⟩ (fun hh=>hh)) ?_)))))))))))
 rintro⟨k,bv⟩ ⟨hk0,hbv⟩
 try simp only at hk0 hbv ⊢
 refine cB (σ':=[(28,i64 k),(27,_),(26,_),(3,_),(2,_),(0,_)]) (aC aa) (ac (ab (kPv (am aa aa aa) aa (ad (ac ?_)))))
 refine ba aa (fun h29=> ?_) (fun h29=> ?_)
 ·have hk:k<S.b.rts.length:=by simp at h29;omega
  obtain⟨bq,oq,rfl⟩:=hqi k hk
  have hvb:=hS.vb S.b.rts[k]
  refine aq (ac (aK (ac (ab (kPv (cA runUnderlying30 sizeOf25 aa aa (by omega) (by omega)) aa ?_)))))
  refine kPv (cj (v:=w64 S.b.rts[k]) isAgg25 (cH 3 aa) aa (by rw[Int.toNat_natCast,List.getElem?_map,List.getElem?_eq_getElem hk];rfl)) aa ?_
  refine kPa aa aa (ad (cM [0,1,2,3,4,5,6,7,8,9,10,11,12] [9,10,12] [0,1] [9] [row b3 [i64 (1 - S.b.act),i64 (S.free - S.to_),bv] 151,row x (eH S (.slice (some ⟨bq,oq,none⟩) S.b.rts.length cr) tsv mw) 247,bi .u64 i64 mw S.went] Tryz.mixed (by kernel_rfl) ?_))
  refine an aa aa aa (aF (m:=_) eP aa aa) .free aa (an aa aa aa (ai isAgg30 aa aa) .free aa (aV aa aa aa (ak aa) .free aa (aV aa aa aa (aJ aa) .free aa (aV aa aa aa (aF (m:=_) lv aa aa) .free aa (aV aa aa aa (ai isAgg245 aa aa) .free aa (aV aa aa aa (ak aa) .free aa (aV aa aa aa ((kN runUnderlying245 runUnderlying25 zeroValue3 aa aa).eq (nS _)) .free aa (aV aa aa aa (c7 runUnderlying3 runUnderlying25 aa (fD (by omega))) .free aa (aR aa aa (kPb (gk runUnderlying30 sizeOf25 zeroValue25 aa aa aa) aa fun b41=>(aU [1,0] ?_)))))))))))
  refine ad (cK (aR aa aa (cP aa (eR aa aa runUnderlying30 runUnderlying30 ⟨_,rfl⟩ sizeOf25 zeroValue25 aa (fun _=>rfl) ik aa aa (by simp;omega)) .free aa aa ?_)))
  rintro bv2 _ ⟨hbv2,rfl⟩
  refine ad (cU aa (aV aa aa aa (aF (m:=_) eP aa aa) .free aa (aR aa aa ?_)))
  refine kPs (aO sizeOf30 aa aa (by first | rfl | assumption) rfl) rfl ?_;refine ad ?_;refine cU aa ?_;refine cC ?_;refine ao [28,27,26,3,2,0] rfl ?_;refine ab ?_;refine kPv (aN aa aa) aa ?_;refine kPm aa aa ?_;refine ad ?_
  exact fun a w st_=>⟨(k+1,bv2),⟨by first | omega | (simp only;omega),hbv2⟩,by first | omega | (simp only;omega),st_.to (aC aa) (fun hh=>(by simp only[o9 hk];exact hh))⟩
 ·have hk:¬ k<S.b.rts.length:=by simp at h29;omega
  obtain rfl:k=S.b.rts.length:=by omega
  rw[List.take_length]
  refine bD (ac (ab (kPv (ah isAgg151 sizeOf151 aa aa) aa ?_)))
  refine kPs (ay (vs:=_) sizeOf151 aa aa aa (by first | rfl | exact eC (by assumption)) rfl) rfl ?_;refine ad ?_;refine ao [2] rfl ?_;refine aB ?_
  exact pv results167 (.cellA aa isAgg151 sizeOf151 aa aa) (fun w hh=>⟨_,⟨bv,hbv,rfl,rfl⟩,(cu (S:=S) hrsv htsv ((hh.dp [1,5]).pk [1,1,1,1])).pk [1]⟩)
theorem tf(B:World)(Fr:List HP)(cap:Nat):
 ∀ w,Holds B Fr w→Calls Tryz.prog 178 [.slice none 0 cap].toArray w (aZ B Fr (.slice none 0 0)):=by
 refine ap func178 aa ntmps178 aa (ac (ab (kPa aa aa (ad (ac (ac (ab (kPm aa aa (kPv (vN runUnderlying30 aa aa aa) aa (ad (sB aa (rfl) ?_)))))))))))
 refine ac (ab (kPa aa aa (ad (aB ?_))))
 exact aw results178 aa (fun w hh=>⟨rfl,hh⟩)
theorem mz(B:World)(Fr:List HP)(q:Option Addr)(cap:Nat)(xs:List Int)(hn:xs.length≤1000000)(hq:q=none→xs=[])(hr:SlR B Fr (.slice q xs.length cap) (xs.map w64)):∀ w,Holds B Fr w→Calls Tryz.prog 178 [.slice q xs.length cap].toArray w (Ret B (fun rv H'=>aL rv=true∧H'=cN 0 (rv,xs)::Fr) (fun _ _=>False)):=by
 intro w hw
 cases q with
 | none=>
   have:=hq rfl
   subst this
   exact(tf B Fr cap w hw).mono fun e w' h=>by obtain⟨rfl,h⟩:=h;exact⟨_,⟨rfl,rfl⟩,eU h⟩
 | some a=>
   refine(kQ B Fr (some a) xs.length cap (xs.map w64) (by simp) (by simpa using hn) (by rw[List.all_eq_true];intro v hv;obtain⟨x,_,rfl⟩:=List.mem_map.1 hv;rfl) hr w hw).mono fun e w' h=> ?_
   cases e with
   | returned v=>
     obtain⟨H',⟨bn,rest,rfl,rfl⟩,h⟩:=h
     exact⟨_,⟨rfl,rfl⟩,gH aa aa h⟩
   | panicked c=>obtain⟨_,h,_⟩:=h;exact h.elim
   | outgrown=>exact h.elim
theorem q5(B:World)(Fr:List HP)(bd:Nat)(c:Cfg)(hc:bj c)(b:Blk)(hb:fS c b)(sv:Value)(hsv:aL sv=true)(q:Option Addr)(cap:Nat)(ws:List Int)(hwn:ws.length≤1000000)(hwq:q=none→ws=[])(hwl:SlR B (cN 0 (sv,b.rts)::Fr) (.slice q ws.length cap) (ws.map w64)):
 ∀ w,Holds B (cN 0 (sv,b.rts)::Fr) w→Calls Tryz.prog 133 [ptr bd,dQ c,kR b sv,.slice q ws.length cap].toArray w (Ret B (fun rv H'=>∃ x,rv=ptr x∧H'=eI x (dY bd c b ws)::Fr) (fun _ _=>False)):=by
 refine ap func133 aa ntmps133 aa ?_
 have hba:=hb.act
 refine ac (ab (kPb (aY aa) aa fun b5=>(kPb (aY aa) aa fun b6=>(kPa aa aa (ad (ac (ab (kPv (ah isAgg134 sizeOf134 aa aa) aa ?_))))))))
 refine kPl hJ isAgg3 aa aa aa aa (kPv (eV aa aa) aa (ax aa (ar call119 aa) (jk _ _ c hc _ (by have:=hb.act;omega) (by have:=hb.act;omega)) .free aa aa ?_))
 refine kPa aa aa (ad (ao [9,8,6,5,0,3] rfl (ac (aU [1] ?_))))
 refine ku (.br [0,1,2,3,4,5,6] 7 (.fin [8,9,10,11]) 8 (.fin [7,9,10,11])) [7,8,10] [0,1,2,3,4,5,6] [7,8] [row b5 [i64 c.log,i64 c.roots,i64 c.space] 134,row b6 [i64 b.act,i64 b.used,sv] 151] [] (G:=Nat) (fun x=>[(8,ptr x)]) (fun x=>eI x (dY bd c b ws)::Fr) Tryz.mixed (by kernel_rfl) ?_ ?_
 ·skip
  refine wm (an aa aa aa (ak aa) .free aa (an aa aa aa (ah isAgg134 sizeOf134 aa aa) .free aa ?_))
  refine an aa aa aa (ah isAgg151 sizeOf151 aa aa) .free aa ?_
  refine an aa aa aa (ak aa) .free aa (an aa aa aa (ak aa) .free aa (an aa aa aa (ak aa) .free aa (an aa aa aa (ak aa) .free aa (cC ?_))))
  refine po aa aa ?_ ?_
  ·skip
   refine aI aa (ar call178 aa) (mz _ _ q cap ws hwn hwq hwl.up) .free aa aa ?_
   rintro tsv _ ⟨htsv,rfl⟩
   refine ad (tF (jw (aR aa aa (kPb (dP .u64 i64) aa fun mw=>(ad (cK ?_))))))
   refine aV aa aa aa (aP aa (fz _ _ _ _ _ _ _ _ _ _ _ _ (by first | rfl | assumption) rfl rfl rfl (by first | rfl | assumption) (by first | rfl | assumption))) .free rfl ?_;refine aR aa aa ?_;refine kPb (aY aa) aa fun b25=> ?_;refine ad ?_;refine cU aa ?_
   refine aV aa aa aa (bA aa) .free aa (cC ?_)
   exact fun a w st_=>⟨b25,st_.to ⟨rfl,trivial⟩ (fun hh=>(cu (S:=dY bd c b ws) hsv htsv ((hh.dp [3,3]).pk [0,2,1])))⟩
  ·skip
   refine kPb (dP .u64 i64) aa fun mw=>(ad (tF (jw (aR aa aa (aI aa (ar call178 aa) (mz _ _ q cap ws hwn hwq hwl.up) .free aa aa ?_)))))
   rintro tsv _ ⟨htsv,rfl⟩
   refine ad (cK ?_)
   refine aV aa aa aa (aP aa (fz _ _ _ _ _ _ _ _ _ _ _ _ (by first | rfl | assumption) rfl rfl rfl (by first | rfl | assumption) (by first | rfl | assumption))) .free rfl ?_;refine aR aa aa ?_;refine kPb (aY aa) aa fun b25=> ?_;refine ad ?_;refine cU aa ?_;refine aV aa aa aa (bA aa) .free aa ?_;refine cC ?_
   exact fun a w st_=>⟨b25,st_.to ⟨rfl,trivial⟩ (fun hh=>(cu (S:=dY bd c b ws) hsv htsv ((hh.dp [3,3]).pk [0,2])))⟩
 intro x
 refine cB (σ':=[(8,ptr x)]) ⟨rfl,trivial⟩ (aB ?_)
 exact aw results133 aa (fun w hh=>⟨_,⟨_,rfl,rfl⟩,hh⟩)
def un:List Value:=yN.flatMap fun p=>[str p.1,i64 p.2]
theorem lV:∀ k,k<18→(un.drop (k*2)).take 2=[str (fw k),i64 (fm k)]:=by
 intro k hk
 obtain rfl | rfl | rfl | rfl | rfl | rfl | rfl | rfl | rfl | rfl | rfl | rfl | rfl | rfl | rfl | rfl | rfl | rfl:k=0∨k=1∨k=2∨k=3∨k=4∨k=5∨k=6∨k=7∨k=8∨k=9∨k=10∨k=11∨k=12∨k=13∨k=14∨k=15∨k=16∨k=17:=by omega
 all_goals rfl
def FG(B:World):Prop:=uN B (some ⟨1,0,none⟩) 1 36 (fun _=>un)
section
variable {B:World} {σ:Env} {H:List HP} {P:Program} {d:Option Tmp} {ty:TypeId} {p:String} {af:Array Edge} {g:Option (Nat×Bool)}
theorem AL{t e m len:Nat}{x y:Operand}{k:IntKind}{i:Int}{cs c:List Value}(ht:∀ w,(underlying t).run P w= .ok (.array len e) w)(ha:∀ w,(isAgg e).run P w= .ok true w)(hs:∀ w,(sizeOf e).run P w= .ok m w)(hx:evO σ x=some (.agg cs.toArray))(hy:evO σ y=some (.int k i))(h0:0≤i∧i<len)(hc:(cs.drop (i.toNat*m)).take m=c):
 Evs P B σ H ⟨d,.index t x y,ty,p,af,g⟩ (.agg c.toArray):=by
 subst hc
 intro a w kn _
 simp only[execOp,kn.eval hx,kn.eval hy]
 simp[Instr.index,asIntOf,ht,h0.1,h0.2,part,ha,hs,List.extract_eq_take_drop]
theorem ze{t b m:Nat}{x:Operand}{cs:List Value}(ht:∀ w,(isAgg t).run P w= .ok true w)(hs:∀ w,(sizeOf t).run P w= .ok m w)[dj H B](hr:uN B (some ⟨b,0,none⟩) 1 m (fun _=>cs))(hx:evO σ x=some (.pointer (some ⟨b,0,none⟩))):
 Evs P B σ H ⟨d,.load t x,ty,p,af,g⟩ (.agg cs.toArray):=
 lD (i:=0) (k:=1) (cap:=1) ht hs (SlN.arg hr) (by rw[hx,Nat.zero_mul]) rfl
def isE:Value→Bool
 | .nilIface=>false
 | _=>true
theorem vL{x:Operand}{t u:TypeId}{ms:Array (String×TypeId)}{v:Value}(ht:∀ w,(underlying t).run P w= .ok (.interface ms) w)(hx:evO σ x=some v)(hv:v= .nilIface∨∃ u x,v= .iface u x):
 Evs P B σ H ⟨d,.binOp .neq t x (.const .nilIface) u,ty,p,af,g⟩ (.bool (isE v)):=(lC ht hx hv).eq (by rcases hv with rfl | ⟨_,_,rfl⟩<;>rfl)
theorem B4{t e b off n cap:Nat}{x lo:Operand}{kk:IntKind}(ht:∀ w,(underlying t).run P w= .ok (.slice e) w)(hs:∀ w,(sizeOf e).run P w= .ok 1 w)(hx:evO σ x=some (.slice (some ⟨b,off,none⟩) n cap))(hl:evO σ lo=some (.int kk 1))(h1:1≤n)(h2:n≤cap):
 Evs P B σ H ⟨d,.slice t x (some lo) none none,ty,p,af,g⟩ (.slice (some ⟨b,if cap=1 then off else off+1,none⟩) (n - 1) (cap - 1)):=by
 by_cases hc:cap=1
 ·subst hc
  obtain rfl:n=1:=by omega
  rw[if_pos rfl]
  exact jm ht hs hx hl
 ·rw[if_neg hc]
  exact j4 ht hs hx (.yesi hl aa) .no h1 h2 (.inl (by omega)) (by rw[Nat.one_mul])
theorem xG{q:Option Addr}{T cap:Nat}{l:List (List UInt8)}(i:Nat)(e:H[i]? =some (p9 T (.slice q l.length cap) l)):SlR B H (.slice q l.length cap) (l.map str):=by
 have h:=xz (B:=B) Bs i e
 rw[om] at h
 refine⟨q,cap,by simp,fun w hw j hj=> ?_⟩
 rcases eu (hw.front i e) with ⟨h1,_,_⟩ | ⟨bd,pre,rest,k,_,h1,h2⟩
 ·rw[h1] at hj;exact absurd hj (Nat.not_lt_zero _)
 ·injection h1 with h1 _ _
  refine⟨bd,pre.length,h1,?_⟩
  have h3:=h2.cell 0 rfl (pre.length+j)
  rw[h3,om,List.append_assoc,List.getElem?_append_right (by omega),Nat.add_sub_cancel_left,List.getElem?_append_left hj]
theorem Aq{n:Nat}{D:List Deferred}{K:Act→World→Prop}{T:Nat}{sv:Value}{l:List (List UInt8)}(h:∀ q cap,sv= .slice q l.length cap→l.length≤cap→(0<l.length→∃ b off,q=some ⟨b,off,none⟩)→GO B n D σ (p9 T sv l::H) K):GO B n D σ (p9 T sv l::H) K:=fun a w st=>by
 rcases eu st.holds with ⟨e1,e2,_⟩ | ⟨bd,pre,rest,k,_,e,_⟩
 ·exact h none 0 (by rw[e2,e1];rfl) (by rw[e1];exact Nat.le_refl _) (fun hi=>by rw[e1] at hi;exact absurd hi (Nat.not_lt_zero _)) a w st
 ·exact h _ _ e (by omega) (fun hi=>⟨_,_,rfl⟩) a w st
end
theorem nQ(s:List UInt8)(t:List (List UInt8)):gS (s::t)=match num s with
 | none=>none
 | some n=>(gS t).map fun l=>(n:Int)::l:=rfl
theorem pA{ns:List Int}{s:List UInt8}{t:List (List UInt8)}(h:num s=none):(gS (s::t)).map (ns++ ·)=none:=by rw[nQ,h];rfl
theorem yg{ns:List Int}{s:List UInt8}{t:List (List UInt8)}{u:Nat}(h:num s=some u):(gS (s::t)).map (ns++ ·)=(gS t).map ((ns++[(u:Int)])++ ·):=by
 rw[nQ,h]
 simp only[Option.map_map]
 congr 1
 funext l
 simp
theorem wP{ws:List (List UInt8)}(h:jR (ws.getD 0 [])=none):cI ws=((0,[]),12):=by unfold cI;rw[h]
theorem wQ{ws:List (List UInt8)}{k:Nat}(h:jR (ws.getD 0 [])=some (k,fm k))(hl:ws.length≠fm k+1):cI ws=((0,[]),13):=by unfold cI;rw[h];simp only[if_pos hl]
theorem r9{ws:List (List UInt8)}{k:Nat}(h:jR (ws.getD 0 [])=some (k,fm k))(hl:ws.length=fm k+1)(hn:gS (ws.drop 1)=none):cI ws=((0,[]),13):=by
 unfold cI;rw[h];simp only[ne_eq,not_true,if_false,hl,hn]
theorem vm{ws:List (List UInt8)}{k:Nat}{ns:List Int}(h:jR (ws.getD 0 [])=some (k,fm k))(hl:ws.length=fm k+1)(hn:gS (ws.drop 1)=some ns):cI ws=((((k:Nat):Int),ns),0):=by
 unfold cI;rw[h];simp only[ne_eq,not_true,if_false,hl,hn]
theorem rr{ws:List (List UInt8)}{i:Nat}(h:i<ws.length):(ws.map str)[i]? =some (str (ws.getD i [])):=by
 simp[h,List.getD]
theorem lZ{ws:List (List UInt8)}{i:Nat}(h:i<ws.length):ws.drop i=ws.getD i []::ws.drop (i+1):=by
 rw[List.drop_eq_getElem_cons h];simp[h,List.getD]
theorem yq(B:World)(Fr:List HP)[dj Fr B](gl:GL B)(fg:FG B)(ws:List (List UInt8))(h0:0<ws.length)(hwn:ws.length≤1000000)(hwl:∀ i,(ws.getD i []).length≤1000000)(b off cap:Nat)(hcap:ws.length≤cap)(hr:SlR B Fr (.slice (some ⟨b,off,none⟩) ws.length cap) (ws.map str)):
 ∀ w,Holds B Fr w→Calls Tryz.prog 28 [.slice (some ⟨b,off,none⟩) ws.length cap].toArray w (Ret B (fun v H'=>∃ sv,aL sv=true∧v= .tuple #[.agg #[i64 (cI ws).1.1,sv],i64 (cI ws).2]∧H'=cN 0 (sv,(cI ws).1.2)::Fr) (fun _ _=>False)):=by
 refine ap func28 aa ntmps28 aa (ac (ab (kPb (aE zeroValue32 aa) aa fun b2=>(kPa aa aa (ad (ac (ac (ab (kPv (ze isAgg62 sizeOf62 fg aa) aa (kPm aa aa (ad ?_)))))))))))
 refine aK (c6 (ι:=Nat) [11,3,2,0] (fun k=>(k≤18)∧(jR (ws.getD 0 [])=jS (ws.getD 0 []) (18 - k) k)) (fun k=>[(12,i64 k)]) (fun k=>row b2 [i64 0,.slice none 0 0] 32::Fr) (fun k=>18 - k) (0) (⟨Nat.zero_le _,rfl⟩) (fun a w st=>st.to ⟨rfl,trivial⟩ (fun hh=>hh)) ?_)
 rintro k ⟨hk0,hko⟩
 try simp only at hk0 hko ⊢
 refine cB (σ':=[(12,i64 k),(11,_),(3,_),(2,_),(0,_)]) (aC aa) (ac (ab (kPv (am aa aa aa) aa (ad (ac ?_)))))
 refine ba aa (fun h13=> ?_) (fun h13=> ?_)
 ·have hk:k<18:=by simp at h13;omega
  have hfm:=CH k hk
  refine aq (ac (aK (ac (ab (kPm aa aa (kPv (AL (c:=[str (fw k),i64 (fm k)]) runUnderlying62 isAgg61 sizeOf61 aa aa (by omega) (by rw[Int.toNat_natCast];exact lV k hk)) aa (kPb (aE zeroValue61 aa) aa fun b5=>(kPa aa aa ?_))))))))
  refine kPs (ay (vs:=_) sizeOf61 aa aa aa (by first | rfl | exact eC (by assumption)) rfl) rfl ?_;refine ad ?_;refine ac ?_;refine ac ?_;refine cL Tryz.mixed (by kernel_rfl) (by kernel_rfl) ?_;refine kQm aa aa ?_;refine kQv (cA runUnderlying50 sizeOf9 aa aa (by omega) (by omega)) aa ?_
  refine kQv (cj (v:=str (ws.getD 0 [])) isAgg9 hr.up aa (rr h0)) aa (kQv (aF (m:=_) vK aa aa) aa (kQv (ai isAgg9 aa aa) aa (kQv (qR aa aa aa) aa (bU (ao [21,4,5,12,11,3,2,0] rfl ?_)))))
  refine ba aa (fun h21=> ?_) (fun h21=> ?_)
  ·have hne:¬ fw k=ws.getD 0 []:=fun e=>by simp[e] at h21
   refine bD (ab (kPv (aN aa aa) aa (kPm aa aa (ad ?_))))
   exact fun a w st_=>⟨k+1,⟨by first | omega | (simp only;omega),by rw[hko,show 18 - k=18 - (k+1)+1 by omega,jS,if_neg hne]⟩,by first | omega | (simp only;omega),st_.to (aC aa) (fun hh=>(hh.dp [0]))⟩
  ·have heq:fw k=ws.getD 0 []:=by
    have h9:ws.getD 0 []=fw k:=by simpa using h21
    exact h9.symm
   have hkind:jR (ws.getD 0 [])=some (k,fm k):=by rw[hko,show 18 - k=17 - k+1 by omega,jS,if_pos heq]
   refine aq (ac (ac (ab (kPm aa aa (kPv (bH aa runUnderlying50 ⟨_,rfl⟩ rfl) aa (kPl AK isAgg3 aa aa aa aa (kPv (aN aa aa) aa (kPv (am aa aa aa) aa (ad (ao [27,4,12,11,3,2,0] rfl ?_))))))))))
   refine ba aa (fun h27=> ?_) (fun h27=> ?_)
   ·have hln:ws.length≠fm k+1:=by simp at h27;omega
    have hres:cI ws=((0,[]),13):=wQ hkind hln
    refine ac (ab (kPv (aP aa (q8)) aa ?_))
    refine kPs (ay (vs:=_) sizeOf32 aa aa aa (by first | rfl | exact eC (by assumption)) rfl) rfl ?_;refine kPa aa aa ?_;refine ad ?_;refine aB ?_
    exact fU results28 (.cellA aa isAgg32 sizeOf32 aa aa) (.tmp aa) (fun w hh=>⟨_,⟨.slice none 0 0,rfl,by rw[hres];rfl,rfl⟩,by rw[hres];exact eU ((hh.dp [0,0]))⟩)
   ·have hln:ws.length=fm k+1:=by simp at h27;omega
    refine aq (ac (ab (kPm aa aa (kPv (aP aa (tk _ aa)) aa (kPb (aE zeroValue32 aa) aa fun b6=> ?_)))))
    refine kPs (ay (vs:=_) sizeOf32 aa aa aa (by first | rfl | exact eC (by assumption)) rfl) rfl ?_;refine ad ?_;refine ac ?_;refine ac ?_;refine aM (fun w hh=>eU (T:=25) (enc:=w64) hh) ?_;refine ab ?_;refine kPm aa aa ?_
    refine kPv (B4 runUnderlying50 sizeOf9 aa aa h0 hcap) aa (kPv (bH aa runUnderlying50 ⟨_,rfl⟩ rfl) aa (kPm aa aa (ad (aK (c6 (ι:=Nat×List Int×Value) [33,32,6,12,11,3,2,0] (fun (i,ns,nv)=>(i≤ws.length - 1)∧(gS (ws.drop 1)=(gS (ws.drop (i+1))).map (ns++ ·))∧(ns.length=i)∧(aL nv=true)) (fun (i,ns,nv)=>[(34,i64 i)]) (fun (i,ns,nv)=>cN 0 (nv,ns)::row b6 [i64 k,nv] 32::row b5 [str (fw k),i64 (fm k)] 61::row b2 [i64 0,.slice none 0 0] 32::Fr) (fun (i,ns,nv)=>ws.length - i) (0,[],.slice none 0 0) (⟨Nat.zero_le _,by simp,rfl,rfl⟩) (fun a w st=>st.to ⟨rfl,trivial⟩ (fun hh=>hh)) ?_)))))
    rintro⟨i,ns,nv⟩ ⟨hi0,hns,hnl,hnv⟩
    try simp only at hi0 hns hnl hnv ⊢
    refine cB (σ':=[(34,i64 i),(33,_),(32,_),(6,_),(12,_),(11,_),(3,_),(2,_),(0,_)]) (aC aa) (ac (ab (kPv (am aa aa aa) aa (ad (ac ?_)))))
    refine ba aa (fun h35=> ?_) (fun h35=> ?_)
    ·have hi:i<ws.length - 1:=by simp at h35;omega
     refine aq (ac (aK (ac (ab (kPv ((cA runUnderlying50 sizeOf9 aa aa (by omega) (by omega)).eq (show _=Value.pointer (some ⟨b,off+(i+1),none⟩) by rw[if_neg (by omega),Int.toNat_natCast,Nat.add_assoc,Nat.add_comm 1])) aa (kPv (cj (v:=str (ws.getD (i+1) [])) isAgg9 hr.up aa (rr (by omega))) aa (kPa aa aa (ad (ac (ab (kPm aa aa ?_)))))))))))
     refine aI aa (ar call55 aa) (x8 gl (ws.getD (i+1) []) (hwl _)) .free aa aa ?_
     rintro _ _ ⟨rfl,n9,e9,rfl,hor⟩
     have hev:e9= .nilIface∨∃ u x,e9= .iface u x:=by
      rcases hor with ⟨u,_,_,h⟩ | ⟨_,t,x,h⟩
      ·exact .inl h
      ·exact .inr ⟨_,_,h⟩
     refine kPm aa aa (kPv (aA aa aa) aa (kPv (aA aa aa) aa (kPa aa aa (kPa aa aa (ad (ao [10,9,8,34,33,32,6,12,11,3,2,0] rfl (ac (ac ?_))))))))
     rcases Bool.eq_false_or_eq_true ((isE e9)) with hs12 | hs12
     ·skip
      have hnum:num (ws.getD (i+1) [])=none:=by
       rcases hor with ⟨u,_,_,h⟩ | ⟨h,_⟩
       ·rw[h] at hs12;cases hs12
       ·exact Ac h
      have hres:cI ws=((0,[]),13):=r9 hkind hln (by rw[hns,lZ (by omega)];exact pA hnum)
      refine ab (kPm aa aa (kPv (vL runUnderlying76 aa hev) aa (kPm aa aa (al aa (.on aa aa (ag hs12)) aa (al aa (.on aa aa (ag hs12)) aa (al aa (.on aa aa (ag hs12)) aa (al aa (.on aa aa (ag hs12)) aa (kPv (au aa hs12 aa) aa (ad (ao [50,9,34,33,32,6,12,11,3,2,0] rfl (sB aa (rfl) ?_)))))))))))
      refine ac (ab (kPv (aP aa (q8)) aa ?_))
      refine kPs (ay (vs:=_) sizeOf32 aa aa aa (by first | rfl | exact eC (by assumption)) rfl) rfl ?_;refine kPa aa aa ?_;refine ad ?_;refine aB ?_
      exact fU results28 (.cellA aa isAgg32 sizeOf32 aa aa) (.tmp aa) (fun w hh=>⟨_,⟨.slice none 0 0,rfl,by rw[hres];rfl,rfl⟩,by rw[hres];exact eU ((hh.dp [0,0,0,0]))⟩)
     ·skip
      obtain⟨u,hpu,rfl,rfl⟩:∃ u:Nat,Lib.parseUintB 64 (ws.getD (i+1) [])= .ok u∧n9=u∧e9= .nilIface:=by
       rcases hor with h | ⟨_,t,x,h⟩
       ·exact h
       ·rw[h] at hs12;cases hs12
      clear hor
      refine ab (kPm aa aa (kPv (vL runUnderlying76 aa hev) aa (kPm aa aa (aj aa (ak aa) (.on aa aa (ae hs12)) aa aa (ax aa (ar call21 aa) (sC _ _ gl u (ya hpu)) (.on aa aa (ae hs12)) aa aa ?_)))))
      refine aj aa (ak aa) (.on aa aa (ae hs12)) aa aa (aj aa (qR aa aa aa) (.on aa aa (ae hs12)) aa aa (kPv (aD aa hs12 aa) aa (ad (ao [50,9,34,33,32,6,12,11,3,2,0] rfl ?_))))
      refine ba aa (fun h50=> ?_) (fun h50=> ?_)
      ·have hnum:num (ws.getD (i+1) [])=none:=by rw[yh hpu,if_neg (by simpa using h50)]
       have hres:cI ws=((0,[]),13):=r9 hkind hln (by rw[hns,lZ (by omega)];exact pA hnum)
       refine ac (ab (kPv (aP aa (q8)) aa ?_))
       refine kPs (ay (vs:=_) sizeOf32 aa aa aa (by first | rfl | exact eC (by assumption)) rfl) rfl ?_;refine kPa aa aa ?_;refine ad ?_;refine aB ?_
       exact fU results28 (.cellA aa isAgg32 sizeOf32 aa aa) (.tmp aa) (fun w hh=>⟨_,⟨.slice none 0 0,rfl,by rw[hres];rfl,rfl⟩,by rw[hres];exact eU ((hh.dp [0,0,0,0]))⟩)
      ·have hnum:num (ws.getD (i+1) [])=some u:=by rw[yh hpu,if_pos (by simpa using h50)]
       refine aq (ab (kPl mQ isAgg30 aa aa aa aa (kPm aa aa (kPb (gk runUnderlying30 sizeOf25 zeroValue25 aa aa aa) aa fun b55=>(aU [1,0] (cP aa (eR aa aa runUnderlying30 runUnderlying30 ⟨_,rfl⟩ sizeOf25 zeroValue25 aa (fun _=>rfl) ik aa aa (by omega)) .free aa aa ?_))))))
       rintro nv9 _ ⟨hnv9,rfl⟩
       refine kPv (aF (m:=_) mQ aa aa) aa ?_
       refine kPs (aO sizeOf30 aa aa (by first | rfl | assumption) rfl) rfl ?_;refine ad ?_;refine ao [34,33,32,6,12,11,3,2,0] rfl ?_;refine ab ?_;refine kPv (aN aa aa) aa ?_;refine kPm aa aa ?_;refine ad ?_
       exact fun a w st_=>⟨(i+1,ns++[(u:Int)],nv9),⟨by first | omega | (simp only;omega),by rw[hns,lZ (by omega),yg hnum],by simp[hnl],hnv9⟩,by first | omega | (simp only;omega),st_.to (aC aa) (fun hh=>hh)⟩
    ·have hi:i=ws.length - 1:=by simp at h35;omega
     have hres:cI ws=((((k:Nat):Int),ns),0):=vm hkind hln (by rw[hns,List.drop_eq_nil_of_le (by omega)];simp[gS])
     refine bD (ac (ab (kPv (ah isAgg32 sizeOf32 aa aa) aa ?_)))
     refine kPs (ay (vs:=[i64 k,nv]) sizeOf32 aa aa aa (show([i64 k,nv]:List Value).all aL=true by simp only[List.all_cons,List.all_nil,hnv];rfl) aa) aa (kPa aa aa (ad (aB ?_)))
     exact fU results28 (.cellA aa isAgg32 sizeOf32 aa aa) (.tmp aa) (fun w hh=>⟨_,⟨nv,hnv,by rw[hres];rfl,by rw[hres]⟩,(hh.dp [1,1,1])⟩)
 ·have hk:k=18:=by simp at h13;omega
  subst hk
  have hres:cI ws=((0,[]),12):=wP hko
  refine bD (ac (ab (kPv (aP aa (q8)) aa ?_)))
  refine kPs (ay (vs:=_) sizeOf32 aa aa aa (by first | rfl | exact eC (by assumption)) rfl) rfl ?_;refine kPa aa aa ?_;refine ad ?_;refine aB ?_
  exact fU results28 (.cellA aa isAgg32 sizeOf32 aa aa) (.tmp aa) (fun w hh=>⟨_,⟨.slice none 0 0,rfl,by rw[hres];rfl,rfl⟩,by rw[hres];exact eU ((hh.dp [0]))⟩)
theorem A8{B:World}{H:List HP}{q:Option Addr}{n cap:Nat}{cs:List Value}(h:SlR B H (.slice q n cap) cs){w:World}(hw:Holds B H w):∀ i,i<cs.length→∃ b off,q=some ⟨b,off,none⟩:=fun i hi=>by
 obtain⟨q',c',e1,e2⟩:=h.ex
 injection e1 with e3 _ _
 subst e3
 obtain⟨b,off,e,_⟩:=e2 w hw i hi
 exact⟨b,off,e⟩
def kD(c:Cmd):List UInt8:=if c.1<0∨18≤c.1 then [63] else c.2.foldl (fun l n=>l++([32]++Lib.decDigits n.toNat)) (fw c.1.toNat)
theorem BX:∀ k,k<18→(fw k).length≤7:=by decide
theorem AE{B:World}(fg:FG B){k:Nat}(hk:k<18):B.cell? ⟨1,k*2,none⟩=some (str (fw k)):=by
 obtain⟨b,off,e,_,h⟩:=fg.cell 0 (by decide)
 injection e with e
 injection e with e1 e2
 subst e1;subst e2
 have h2:=h (k*2) (by omega)
 have h3:=lV k hk
 have h4:un[k*2]? =some (str (fw k)):=by
  have:=congrArg (fun l=>l[0]?) h3
  simpa using this
 rw[show 0+(0*36+k*2)=k*2 by omega,h4] at h2
 exact h2
theorem wi{α β:Type}{f:β→α→β}{a:β}{l:List α}{k:Nat}(h:k<l.length):(l.take (k+1)).foldl f a=f ((l.take k).foldl f a) l[k]:=by
 rw[List.take_succ_eq_append_getElem h,List.foldl_append];rfl
theorem w3(B:World)(Fr:List HP)[dj Fr B](gl:GL B){n:Int}(h:0≤n∧n<18446744073709551616):∀ w,Holds B Fr w→Calls Tryz.prog 21 [w64 n,i64 10].toArray w (aZ B Fr (str (Lib.decDigits n.toNat))):=by
 obtain⟨u,rfl⟩:=Int.eq_ofNat_of_zero_le h.1
 exact sC B Fr gl u (by omega)
theorem xP{xs:List Int}{k:Nat}(hk:k<xs.length):(xs.map w64)[k]? =some (w64 xs[k]):=by simp[hk]
theorem sV(B:World)(Fr:List HP)[dj Fr B](gl:GL B)(fg:FG B)(kd:Int)(q:Option Addr)(cap:Nat)(ns:List Int)(hn:ns.length≤1000)(hnb:∀ n∈ns,0≤n∧n<18446744073709551616)(hr:SlR B Fr (.slice q ns.length cap) (ns.map w64))(hq:∀ i,i<ns.length→∃ b off,q=some ⟨b,off,none⟩):
 ∀ w,Holds B Fr w→Calls Tryz.prog 13 [.agg #[i64 kd,.slice q ns.length cap]].toArray w (aZ B Fr (str (kD (kd,ns)))):=by
 refine ap func13 aa ntmps13 aa (ac (ab (kPb (aY aa) aa fun b1=>(kPa aa aa (ad (ac (ac (ab (kPl mR isAgg29 aa aa aa aa (kPv (am aa aa aa) aa (kPm aa aa ?_)))))))))))
 apply fK (tp:=13) (t:=9) (σ1:=[(9,_),(2,_),(1,_)]) 4 rfl (aC rfl)
 ·intro hg1
  refine aj aa (aF (m:=_) mR aa aa) (.on aa aa (ae hg1)) aa aa (aj aa (ai isAgg29 aa aa) (.on aa aa (ae hg1)) aa aa (aj aa (am aa aa aa) (.on aa aa (ae hg1)) aa aa (kPv (aD aa hg1 aa) aa ?_)))
  exact aT aa (aC aa) (eM hg1)
 ·intro hg1
  refine al aa (.on aa aa (ag hg1)) aa (al aa (.on aa aa (ag hg1)) aa (al aa (.on aa aa (ag hg1)) aa (kPv (au aa hg1 aa) aa ?_)))
  exact aT aa (aC aa) (eK hg1)
 refine ad ?_
 refine ba aa (fun h13=> ?_) (fun h13=> ?_)
 ·have hbad:kd<0∨18≤kd:=by simpa using h13
  have hres:kD (kd,ns)=[63]:=by unfold kD;rw[if_pos hbad]
  refine ac (ab (kPa aa aa (ad (aB ?_))))
  exact aw results13 aa (fun w hw=>⟨by rw[hres],(hw.dp [0])⟩)
 ·have hok:¬ (kd<0∨18≤kd):=by intro h;simp at h13;omega
  have hk18:kd.toNat<18:=by omega
  have hres:kD (kd,ns)=ns.foldl (fun l n=>l++([32]++Lib.decDigits n.toNat)) (fw kd.toNat):=by unfold kD;rw[if_neg hok]
  have hf0:=BX kd.toNat hk18
  refine aq (ac (ab (kPl mR isAgg29 aa aa aa aa (kPv (lY (m:=kd.toNat*2) runUnderlying62 sizeOf61 aa aa (by omega) (by omega) (by omega)) aa (kPv (aF (m:=_) vK aa aa) aa (kPv (zd isAgg9 aa (AE fg hk18)) aa (kPa aa aa (ad (ao [3,2,1] rfl (ac (ac ?_)))))))))))
  refine ab (kPl mQ isAgg30 aa aa aa aa (kPv (bH aa runUnderlying30 ⟨_,rfl⟩ rfl) aa (kPm aa aa (ad (aK (c6 (ι:=Nat×List UInt8) [21,20,2] (fun (k,o)=>(k≤ns.length)∧(o=((ns.take k).foldl (fun l n=>l++([32]++Lib.decDigits n.toNat)) (fw kd.toNat)))∧(o.length≤7+k*21)) (fun (k,o)=>[(22,i64 k),(3,str o)]) (fun (k,o)=>row b1 [i64 kd,.slice q ns.length cap] 32::Fr) (fun (k,o)=>ns.length - k) (0,fw kd.toNat) (⟨Nat.zero_le _,by simp,by omega⟩) (fun a w st=>st.to ⟨rfl,rfl,trivial⟩ (fun hh=>hh)) ?_))))))
  rintro⟨k,o⟩ ⟨hk0,ho,hol⟩
  try simp only at hk0 ho hol ⊢
  refine cB (σ':=[(22,i64 k),(3,str o),(21,_),(20,_),(2,_)]) (aC aa) (ac (ab (kPv (am aa aa aa) aa (ad (ac ?_)))))
  refine ba aa (fun h23=> ?_) (fun h23=> ?_)
  ·have hk:k<ns.length:=by simp at h23;omega
   obtain⟨bq,oq,rfl⟩:=hq k hk
   have hd20:=oC (ns[k]).toNat (by have:=hnb _ (List.getElem_mem hk);omega)
   refine aq (ac (aK (ac (ab (kPv (cA runUnderlying30 sizeOf25 aa aa (by omega) (by omega)) aa (kPv (cj (v:=w64 ns[k]) isAgg25 hr.up aa (by rw[Int.toNat_natCast];exact xP hk)) aa (kPa aa aa (ad (ab (kPm aa aa (kPm aa aa ?_)))))))))))
   refine ax aa (ar call21 aa) (w3 B _ gl (hnb _ (List.getElem_mem hk))) .free aa aa ?_
   refine aj aa (vO aa aa (by first | omega | (simp only[List.length_append,List.length_cons,List.length_nil];omega))) .free aa aa ?_
   refine aj aa (vO aa aa (by first | omega | (simp only[List.length_append,List.length_cons,List.length_nil];omega))) .free aa aa ?_
   refine kPa aa aa (ad (ao [3,22,21,20,2] rfl (ab (kPv (aN aa aa) aa (kPm aa aa (ad ?_))))))
   exact fun a w st_=>⟨(k+1,o++([32]++Lib.decDigits (ns[k]).toNat)),⟨by first | omega | (simp only;omega),by rw[wi hk,ho],by simp only[List.length_append,List.length_cons,List.length_nil];omega⟩,by first | omega | (simp only;omega),st_.to (aC aa) (fun hh=>hh)⟩
  ·have hk:k=ns.length:=by simp at h23;omega
   refine bD (ac (ab (kPm aa aa (kPa aa aa (ad (aB ?_))))))
   exact aw results13 aa (fun w hw=>⟨by rw[hres,ho,hk,List.take_length],(hw.dp [0])⟩)
theorem Al{l:List UInt8}{c:UInt8}(h:¬ Lib.indexByte l c<0):∃ i:Nat,Lib.indexByte l c=i∧i<l.length:=by
 rcases pG l c with h1 | h1
 ·omega
 ·exact h1
theorem zR(B:World)(Fr:List HP)(s:List UInt8):
 ∀ w,Holds B Fr w→Calls Tryz.prog 51 [str s,.string ⟨#[10]⟩,i64 0].toArray w (Ret B (fun v H'=>∃ b1 b2 b3,v= .func (.func 94) [].toArray [ptr b2,ptr b1,ptr b3].toArray∧H'=row b3 [i64 0] 3::row b2 [.string ⟨#[10]⟩] 9::row b1 [str s] 9::Fr) (fun _ _=>False)):=by
 refine ap func51 aa ntmps51 aa (ac (ab (kPb (dE aa aa) aa fun b3=>(kPb (dE aa aa) aa fun b4=>(kPb (dE aa aa) aa fun b5=>(kPa aa aa (ad (ac (ab (kPv (dt aa aa) aa (kPa aa aa ?_)))))))))))
 refine ad (ao [6] rfl (aB ?_))
 exact aw results51 aa (fun w hw=>⟨_,⟨_,_,_,rfl,rfl⟩,hw⟩)
theorem xL(B:World)(Fr:List HP)(s:List UInt8):
 ∀ w,Holds B Fr w→Calls Tryz.prog 26 [str s,.string ⟨#[10]⟩].toArray w (Ret B (fun v H'=>∃ b1 b2 b3,v= .func (.func 94) [].toArray [ptr b2,ptr b1,ptr b3].toArray∧H'=row b3 [i64 0] 3::row b2 [.string ⟨#[10]⟩] 9::row b1 [str s] 9::Fr) (fun _ _=>False)):=by
 refine ap func26 aa ntmps26 aa (ac (ab (kPa aa aa (ad (ac (ab (kPm aa aa (kPm aa aa (aI aa (ar call51 aa) (zR _ _ s) .free aa aa ?_)))))))))
 rintro _ _ ⟨b1,b2,b3,rfl,rfl⟩
 refine kPa aa aa (ad (aB ?_))
 exact aw results26 aa (fun w hw=>⟨_,⟨_,_,_,rfl,rfl⟩,hw⟩)
theorem xM(B:World)(E:List HP)[dj E B](l f b1 b2 b3 N:Nat)(s:List UInt8)(hs:s.length≤N)(hN:N≤1000000)(ι:Type)(r:Loop)(hrf:r.fn=f)(hrp:r.params.size=1)(I:ι→Prop)(Hx:ι→List HP)(cd:ι→Code)(st:List UInt8→ι→Bool×ι)(x0:ι)(h0:I x0)(hround:∀ (p:List UInt8) (x:ι),p.length≤N→I x→I (st p x).2∧∀ (E:List HP) [dj E B] w,Holds B (blk l (.loop r)::(Hx x++E)) w→RoundIn (Wd (cxF f)) 0 Tryz.prog l f ((r.params.zip [str p].toArray).foldl (fun tmps (t,a)=>tmps.setIfInBounds t a) r.tmps) r.assign r.body w (Ret B (fun rv H'=>rv= .bool (st p x).1∧H'=blk l (.loop (lst r cd (st p x)))::(Hx (st p x).2++E)) (fun _ _=>False))):
 ∀ w,Holds B (row b1 [str s] 9::row b2 [.string ⟨#[10]⟩] 9::row b3 [i64 0] 3::blk l (.loop r)::(Hx x0++E)) w→Calls Tryz.prog 94 [.func (.yield l) #[] #[],ptr b2,ptr b1,ptr b3].toArray w (Ret B (fun _ H'=>I (itl st (spl 10 s) x0).2∧H'=blk l (.loop (lst r cd (itl st (spl 10 s) x0)))::(Hx (itl st (spl 10 s) x0).2++E)) (fun _ _=>False)):=by
 refine ap func94 aa ntmps94 aa (ac (ac (ab (kPv (ai isAgg9 aa aa) aa (kPv (mT aa runUnderlying9 aa) aa (kPv (am aa aa aa) aa (ad (bE aa (rfl) (aq (ac (aK ?_)))))))))))
 refine c6 (ι:=List UInt8×ι) [0,1,2,3] (fun (q,x)=>(q.length≤s.length)∧(I x)∧(itl st (spl 10 s) x0=itl st (spl 10 q) x)) (fun (q,x)=>[]) (fun (q,x)=>row b1 [str q] 9::row b2 [.string ⟨#[10]⟩] 9::row b3 [i64 0] 3::blk l (.loop r)::(Hx x++E)) (fun (q,x)=>q.length) (s,x0) (⟨Nat.le_refl _,h0,rfl⟩) (fun a w st=>st.to trivial (fun hh=>hh)) ?_
 rintro⟨q,x⟩ ⟨hq,hIx,hinv⟩
 try simp only at hq hIx hinv ⊢
 refine cB (σ':=[(0,_),(1,_),(2,_),(3,_)]) (aC aa) (aK (ac (ab (kPv (ai isAgg9 aa aa) aa (kPv (ai isAgg9 aa aa) aa (ax aa (ar call41 aa) (zT _ q 10) .free aa aa ?_))))))
 refine kPa aa aa (ad (ac (ac (ab (kPm aa aa (kPv (am aa aa aa) aa (ad ?_)))))))
 refine ba aa (fun h33=> ?_) (fun h33=> ?_)
 ·have hneg:Lib.indexByte q 10= -1:=vu (by simpa using h33)
  refine bD (ab (kPm aa aa (kPv (ai isAgg9 aa aa) aa ?_)))
  refine fJ (f:=f) (r:=r) (H1:=Hx x++(row b1 [str q] 9::row b2 [.string ⟨#[10]⟩] 9::row b3 [i64 0] 3::E)) aa aa (fun w hh=>hh.perm (vd (Hx x) E)) (by rw[hrp];rfl) hrf ((hround q x (by omega) hIx).2 (row b1 [str q] 9::row b2 [.string ⟨#[10]⟩] 9::row b3 [i64 0] 3::E)) .free aa ?_ ?_
  rotate_left
  ·rintro _ _ ⟨⟩
  rintro _ _ ⟨rfl,rfl⟩
  refine aM (fun w hh=>hh.perm (vd (Hx (st q x).2) E).symm) (ad (ao [] rfl ?_))
  exact cJ results94 (fun w hh=>⟨_,⟨by rw[hinv,rz hneg,Ak];exact(hround q x (by omega) hIx).1,by rw[hinv,rz hneg,Ak]⟩,(hh.dp [0,0,0])⟩)
 ·obtain⟨i,hi,hil⟩:=Al (show ¬ Lib.indexByte q 10<0 by simpa using h33)
  rw[hi]
  refine aq (ac (ab (kPv (ai isAgg9 aa aa) aa (kPm aa aa (kPv (ai isAgg3 aa aa) aa (kPv (ib aa aa (show IntKind.i64.wrap ((i:Int)+0)=i by rw[Int.add_zero];exact gp (by omega))) aa (kPv (pZ runUnderlying9 aa aa (by omega) (by omega)) aa (kPa aa aa (ad (ao [8,7,0,1,2,3] rfl (ac ?_)))))))))))
  refine ac (ab (kPm aa aa (kPm aa aa ?_)))
  refine fJ (f:=f) (r:=r) (H1:=Hx x++(row b1 [str q] 9::row b2 [.string ⟨#[10]⟩] 9::row b3 [i64 0] 3::E)) aa aa (fun w hh=>hh.perm (vd (Hx x) E)) (by rw[hrp];rfl) hrf ((hround (q.take i) x (by rw[List.length_take];omega) hIx).2 (row b1 [str q] 9::row b2 [.string ⟨#[10]⟩] 9::row b3 [i64 0] 3::E)) .free aa ?_ ?_
  rotate_left
  ·rintro _ _ ⟨⟩
  rintro _ _ ⟨rfl,rfl⟩
  refine aM (fun w hh=>hh.perm (vd (Hx (st (q.take i) x).2) E).symm) (kPv (bu aa) aa (ad ?_))
  refine ba aa (fun h42=> ?_) (fun h42=> ?_)
  ·have hg:(st (q.take i) x).1=false:=by simpa using h42
   have hres:itl st (spl 10 s) x0=st (q.take i) x:=by rw[hinv,ry hi];exact wT hg
   refine aB ?_
   exact iG results94 (fun w hh=>⟨_,⟨by rw[hres];exact(hround (q.take i) x (by rw[List.length_take];omega) hIx).1,by rw[hres]⟩,(hh.dp [0,0,0])⟩)
  ·have hg:(st (q.take i) x).1=true:=by simpa using h42
   have hlr:lst r cd (st (q.take i) x)=r:=by unfold lst;rw[if_pos hg]
   refine aq (ab (kPv (ai isAgg9 aa aa) aa (kPm aa aa (kPv (ai isAgg9 aa aa) aa (kPv (mT aa runUnderlying9 aa) aa (kPv (ib aa aa (show IntKind.i64.wrap ((i:Int)+(([10]:List UInt8).length:Int))=((i+1:Nat):Int) by simp only[List.length_cons,List.length_nil];rw[gp (by omega)];omega)) aa (kPv (pY (i:=((i+1:Nat):Int)) runUnderlying9 aa aa (by omega) (by omega)) aa ?_)))))))
   refine kPs (aO sizeOf9 aa aa (by first | rfl | assumption) rfl) rfl ?_;refine ad ?_;refine ao [0,1,2,3] rfl ?_
   exact fun a w st_=>⟨(q.drop (i+1),(st (q.take i) x).2),⟨by rw[List.length_drop];omega,(hround (q.take i) x (by rw[List.length_take];omega) hIx).1,by rw[hinv,ry hi];simp only[itl];rw[if_pos hg]⟩,by rw[List.length_drop];omega,st_.to (aC aa) (fun hh=>(by have hh:=hh;rw[hlr] at hh;exact hh))⟩
theorem kX:∀ (l:List UInt8) (st:Option (List UInt8)),(tok l st).length≤l.length+1∧∀ p∈tok l st,p.length≤l.length+(st.getD []).length
 | [],st=>by cases st<;>simp[tok]
 | x::t,st=>by
   have h1:=kX t none
   have h2:=kX t (some (st.getD []++[x]))
   unfold tok
   split
   ·cases st with
    | none=>exact⟨by simp only[List.length_cons];omega,fun p hp=>by have:=h1.2 p hp;simp at this ⊢;omega⟩
    | some c=>
      refine⟨by simp only[List.length_cons];omega,fun p hp=> ?_⟩
      rcases List.mem_cons.1 hp with rfl | hp
      ·simp
      ·have:=h1.2 p hp;simp at this ⊢;omega
   ·exact⟨by simp only[List.length_cons];omega,fun p hp=>by have:=h2.2 p hp;simp at this ⊢;omega⟩
theorem wg{p:List UInt8}(hp:p.length≤100000)(i:Nat):((tok (dm p) none).getD i []).length≤1000000:=by
 have h:=(kX (dm p) none).2
 have h2:=oE p
 rw[List.getD_eq_getElem?_getD]
 cases e:(tok (dm p) none)[i]? with
 | none=>simp
 | some q=>have:=h q (List.mem_of_getElem? e);simp at this ⊢;omega
theorem zM{p:List UInt8}(hp:p.length≤100000):(tok (dm p) none).length≤1000000:=by
 have h:=(kX (dm p) none).1
 have h2:=oE p
 omega
theorem nN(B:World)(Fr:List HP)[dj Fr B](gl:GL B)(fg:FG B)(s:List UInt8):
 ∀ w,Holds B Fr w→Calls Tryz.prog 14 [str s].toArray w (Ret B (fun rv H'=>∃ sv,aL sv=true∧rv= .tuple #[sv,i64 (cS s).2.1,i64 (cS s).2.2]∧H'=ke 0 (sv,(cS s).1)::Fr) (fun _ _=>False)):=by
 refine ew func14 aa ntmps14 aa (ac (ab (kPb (bX zeroValue24 aa) aa fun b2=>(kPb (bX zeroValue3 aa) aa fun b3=>(kPb (bX zeroValue36 aa) aa fun b4=>(ad (vF (ac (ac (ab (kPm aa aa ?_)))))))))))
 refine kPv (mT aa runUnderlying9 aa) aa (kPv (am aa aa aa) aa (ad ?_))
 refine ba aa (fun h13=> ?_) (fun h13=> ?_)
 ·have hsl:65536<s.length:=by simp at h13;omega
  have hres:cS s=([],0,11):=by unfold cS;rw[if_pos hsl]
  refine ac (ab ?_)
  refine kPs (aO sizeOf24 aa aa (by first | rfl | assumption) rfl) rfl ?_;refine kPs (aO sizeOf3 aa aa aa aa) aa ?_;refine kPs (aO sizeOf36 aa aa aa aa) aa ?_;refine ad ?_;refine aB ?_
  exact qp results14 (.nil) (.aL aa isAgg24 aa) (.aL aa isAgg3 aa) (.aL aa isAgg36 aa) (fun w hh=>⟨_,⟨.slice none 0 0,rfl,by rw[hres],rfl⟩,by rw[hres];exact oG ((hh.dp [0,0,0]))⟩)
 ·have hsl:s.length≤65536:=by simp at h13;omega
  refine aq (ac (ab (kPb (bX zeroValue24 aa) aa fun b5=>(ad (ac (ab (kPb (bX zeroValue3 aa) aa fun b6=>(kPs (aO sizeOf3 aa aa aa aa) aa (ad (ac (vG ?_)))))))))))
  refine ac (ac (ab (kPm aa aa (aI aa (ar call26 aa) (xL B _ s) .free aa aa ?_))))
  rintro _ _ ⟨c1,c2,c3,rfl,rfl⟩
  refine ad (aK (kt aa call94 ?_))
  intro l m tmps hts hkn w hh
  have hk2:=hkn 2 _ rfl
  have hk3:=hkn 3 _ rfl
  have hk4:=hkn 4 _ rfl
  have hk5:=hkn 5 _ rfl
  have hk6:=hkn 6 _ rfl
  refine(xM B (blk m (.deferred (some []))::Fr) l 14 c1 c2 c3 65536 s hsl (by decide) PSt _ aa aa (fun x=>x.2.1.length≤400) (fun x=>[row b6 [i64 x.1] 3,Cn b5 x.2.1,row b2 [.slice none 0 0] 24,row b3 [i64 x.2.2.2.1] 3,row b4 [i64 x.2.2.2.2] 36]) (fun _=> .ret) stP p0 (Nat.zero_le _) ?_ w (by have h1:=(hh.pk [6,4,3,2,0,1,3,2,1]);exact(iZ aa ((oG h1).pk [1])).pk [1,1,1,1,1])).mono (Ret.mono ?_ fun _ _ h=>h.elim)
  ·intro p x hpl hxl
   refine⟨?_,fun E hE=> ?_⟩
   ·unfold stP;simp only;split
    ·exact hxl
    ·split
     ·exact hxl
     ·split
      ·exact hxl
      ·simp only[List.length_append,List.length_cons,List.length_nil];omega
   simp only[List.cons_append,List.nil_append]
   refine gr (n:=42) (σ:=[(16,str p),(2,ptr b2),(3,ptr b3),(4,ptr b4),(5,ptr b5),(6,ptr b6)]) func14 (by simp[fB,hts]) (KnA.knows (by simp[KnA,fB,hts];exact⟨(Array.getElem?_eq_some_iff.1 hk2).2,(Array.getElem?_eq_some_iff.1 hk3).2,(Array.getElem?_eq_some_iff.1 hk4).2,(Array.getElem?_eq_some_iff.1 hk5).2,(Array.getElem?_eq_some_iff.1 hk6).2⟩)) aa ?_
   refine ab (kPa aa aa (ad (jW (aK (ac (ab (kPv (ai isAgg3 aa aa) aa (kPv (ib aa aa aa) aa (kPs (aO sizeOf3 aa aa aa aa) aa (ad (ac ?_)))))))))))
   refine ab (kPm aa aa (aI aa (ar call27 aa) (xy _ _ p (by omega)) .free aa aa ?_))
   rintro sv _ rfl
   refine kPa aa aa (ad (ac (ac (Aq fun q cap hq hcap hqi=> ?_))))
   subst hq
   refine ab (kPm aa aa (kPv (bH aa runUnderlying50 ⟨_,rfl⟩ rfl) aa (kPv (am aa aa aa) aa (ad (ao [23,8,2,3,4,5,6] rfl ?_)))))
   refine ba aa (fun h23=> ?_) (fun h23=> ?_)
   ·have hws:(tok (dm p) none)=[]:=List.eq_nil_of_length_eq_zero (by simp at h23;simpa using h23)
    refine bD ?_
    have hst:stP p x=(true,IntKind.i64.wrap (x.1+1),x.2.1,x.2.2):=by unfold stP;simp only;rw[if_pos hws]
    refine aU [1] ?_
    exact jV fun w hh=>⟨_,⟨by rw[hst],rfl⟩,by rw[hst];exact(hh.dp [1])⟩
   ·have hws:¬ (tok (dm p) none)=[]:=fun e=>by simp[e] at h23
    refine aq (ac (ac (aU [3] (vA fun rv hrv=>(aU [1] (vD fun rs hrs=>(oa fun q2 cap2 hq2 hqi2=> ?_)))))))
    subst hq2
    have hrl:rs.length=x.2.1.length:=by rw[←hrs.1,List.length_map]
    refine ab (kPv (ai isAgg24 aa aa) aa (kPv (bH aa runUnderlying24 ⟨_,rfl⟩ rfl) aa (kPv (am aa aa aa) aa (ad ?_))))
    refine ba aa (fun h26=> ?_) (fun h26=> ?_)
    ·have h400:x.2.1.length=400:=by simp at h26;omega
     refine ac (cM [0,1,2,3] [1,2,3] [0] [1] [row b6 ([i64 x.1].set 0 (i64 (IntKind.i64.wrap (x.1+1)))) 3] Tryz.mixed (by kernel_rfl) ?_)
     refine an aa aa aa (ai isAgg3 aa aa) .free aa (aR aa aa ?_)
     refine kPs (aO sizeOf24 aa aa (by first | rfl | assumption) rfl) rfl ?_;refine ad ?_;refine cK ?_;refine aR aa aa ?_;refine kPs (aO sizeOf3 aa aa aa aa) aa ?_;refine ad ?_
     refine cU aa (aR aa aa (kPs (aO sizeOf36 aa aa aa aa) aa (ad (cU aa (cC (aB ?_))))))
     have hst:stP p x=(false,IntKind.i64.wrap (x.1+1),x.2.1,[],IntKind.i64.wrap (x.1+1),11):=by unfold stP;simp only;rw[if_neg hws,if_pos (by omega)]
     refine aU [4] ?_
     exact vB fun w hh=>⟨_,⟨by rw[hst],rfl⟩,by rw[hst];exact(by have h1:=((hh.dp [4]).pk [1,1,1]);exact(iZ hrv ((jp hrs h1).pk [1])).pk [1,1])⟩
    ·have h400:¬ x.2.1.length=400:=by simp at h26;omega
     refine aq (ac ?_)
     obtain⟨bq,oq,rfl⟩:=hqi (by cases h:(tok (dm p) none) with | nil=>exact absurd h hws | cons a t=>simp)
     have hwl0:0<(tok (dm p) none).length:=by cases h:(tok (dm p) none) with | nil=>exact absurd h hws | cons a t=>simp
     refine ab (kPm aa aa (aU [3] (aI aa (ar call28 aa) (yq B _ gl fg (tok (dm p) none) (by omega) (zM (by omega)) (wg (by omega)) _ _ _ hcap (xG 0 aa)) .free aa aa ?_)))
     rintro _ _ ⟨sv9,hsv9,rfl,rfl⟩
     refine kPm aa aa (kPv (aA aa aa) aa (kPv (aA aa aa) aa (kPb (aE zeroValue32 aa) aa fun b9=>(kPs (ay (vs:=[i64 (cI (tok (dm p) none)).1.1,sv9]) sizeOf32 aa aa aa (show([i64 (cI (tok (dm p) none)).1.1,sv9]:List Value).all aL=true by simp only[List.all_cons,List.all_nil,hsv9];rfl) aa) aa (kPa aa aa (ad (ao [10,9,2,3,4,5,6] rfl (ac (ac (ab (kPm aa aa ?_)))))))))))
     refine kPv (am aa aa aa) aa (ad ?_)
     refine ba aa (fun h34=> ?_) (fun h34=> ?_)
     ·have he0:(cI (tok (dm p) none)).2≠0:=by simpa using h34
      refine ac (cM [0,1,2,3,4] [2,3,4] [0,1] [2,3] [row b6 ([i64 x.1].set 0 (i64 (IntKind.i64.wrap (x.1+1)))) 3] Tryz.mixed (by kernel_rfl) ?_)
      refine an aa aa aa (ai isAgg3 aa aa) .free aa (an aa aa aa (ak aa) .free aa (aR aa aa ?_))
      refine kPs (aO sizeOf24 aa aa (by first | rfl | assumption) rfl) rfl ?_;refine ad ?_;refine cK ?_;refine aR aa aa ?_
      refine kPs (aO sizeOf3 aa aa aa aa) aa (ad (cK (aR aa aa (kPs (aO sizeOf36 aa aa aa aa) aa (ad (cU aa (cC (aB ?_))))))))
      have hst:stP p x=(false,IntKind.i64.wrap (x.1+1),x.2.1,[],IntKind.i64.wrap (x.1+1),(cI (tok (dm p) none)).2):=by unfold stP;simp only;rw[if_neg hws,if_neg (by omega),if_pos he0]
      refine aU [6] ?_
      exact vB fun w hh=>⟨_,⟨by rw[hst],rfl⟩,by rw[hst];exact(by have h1:=((hh.dp [1,1,1]).pk [1,1,1]);exact(iZ hrv ((jp hrs h1).pk [1])).pk [1,1])⟩
     ·have he0:(cI (tok (dm p) none)).2=0:=by simpa using h34
      refine aq (aU [1] (yF fun q3 c3 hq3=> ?_))
      subst hq3
      refine ab (kPv (ai isAgg24 aa aa) aa (kPv (ah isAgg32 sizeOf32 aa aa) aa ?_))
      refine kPb (oJ sW (v:=((cI (tok (dm p) none)).1.1,(q3,(cI (tok (dm p) none)).1.2.length,c3),(cI (tok (dm p) none)).1.2)) runUnderlying24 sizeOf32 zeroValue32 ⟨⟨by decide,by decide⟩,rfl⟩ rfl aa) aa fun b39=>(aU [4,0] (cP aa (j8 sW (ys:=[((cI (tok (dm p) none)).1.1,(q3,(cI (tok (dm p) none)).1.2.length,c3),(cI (tok (dm p) none)).1.2)]) aa aa runUnderlying24 runUnderlying24 ⟨_,rfl⟩ sizeOf32 zeroValue32 aa Cs aa aa (SlM.row (b:=b39) aa aa) (Nat.succ_pos _) (by simp;omega)) .free aa aa ?_))
      rintro rv2 _ ⟨hrv2,rfl⟩
      refine kPs (aO sizeOf24 aa aa (by first | rfl | assumption) rfl) rfl ?_;refine ad ?_;refine ao [2,3,4] rfl ?_
      have hst:stP p x=(true,IntKind.i64.wrap (x.1+1),x.2.1++[(cI (tok (dm p) none)).1],x.2.2):=by unfold stP;simp only;rw[if_neg hws,if_neg (by omega),if_neg (by simpa using he0)]
      refine aU [7] ?_
      exact jV fun w hh=>⟨_,⟨by rw[hst],rfl⟩,by rw[hst];exact(by have h1:=((hh.dp [2,3,3]).pk [3,2,1,1]);have h2:=wF (t:=((cI (tok (dm p) none)).1.1,(q3,(cI (tok (dm p) none)).1.2.length,c3),(cI (tok (dm p) none)).1.2)) h1;exact(iZ hrv2 ((jp (hrs.push aa) (h2.pk [1])).pk [1])).pk [1,1])⟩
  rintro _ _ ⟨_,rfl⟩
  simp only[List.cons_append,List.nil_append]
  refine⟨_,_,fun w hh=>hh,jN (by simp[fB]),fun hp=> ?_,fun c' hc'=> ?_⟩
  rotate_left
  ·obtain⟨h1,rfl⟩:=jM rfl hc'
   refine aB ?_
   have hres:cS s=(itl stP (spl 10 s) p0).2.2.2:=by unfold cS;rw[if_neg (by omega),if_neg (by rw[h1];decide)]
   have hbad:=uU _ _ h1
   exact qp results14 (.at 6 .nil) (.aL aa isAgg24 aa) (.aL aa isAgg3 aa) (.aL aa isAgg36 aa) fun w hh=>⟨_,⟨.slice none 0 0,rfl,by rw[hres],rfl⟩,by rw[hres,hbad];exact oG ((hh.dp [0,0,0,0,0,0,0]))⟩
  have hres:cS s=((itl stP (spl 10 s) p0).2.2.1,0,0):=by unfold cS;rw[if_neg (by omega),if_pos (r8 hp)]
  refine aU [2] (vA fun rv hrv=>(ac (ab (kPv (ai isAgg24 aa aa) aa ?_))))
  refine kPs (aO sizeOf24 aa aa (by first | rfl | assumption) rfl) rfl ?_;refine kPs (aO sizeOf3 aa aa aa aa) aa ?_;refine kPs (aO sizeOf36 aa aa aa aa) aa ?_;refine ad ?_;refine ao [4,3,2] rfl ?_;refine aB ?_
  exact qp results14 (.at 7 (.nil)) (.aL aa isAgg24 aa) (.aL aa isAgg3 aa) (.aL aa isAgg36 aa) (fun w hh=>⟨_,⟨rv,hrv,by rw[hres],rfl⟩,by rw[hres];exact(hh.dp [0,1,1,1,1,1,1])⟩)
theorem BQ{l:List (List UInt8)}{p:List UInt8}{x:PSt}(h:(stP p x).1=true):itl stP (p::l) x=itl stP l (stP p x).2:=by
 rw[itl,if_pos h]
theorem wB{s:List UInt8}{y:List Cmd×Int×Int}{a:Int}{o:List Cmd}(hs:s.length≤65536)(h:itl stP (spl 10 s) p0=(true,a,o,y)):cS s=(o,0,0):=by
 unfold cS;rw[if_neg (by omega),if_pos (by rw[h]),h]
abbrev fT(i v:Int)(s:Dev)(S:bz):Out (Int×bz):=S.store s i v
def bz.fresh(S:bz)(f t:Int):bz:={S with ff:=f,ft:=t,seen:=[],dirty:=[]}
def iI(c:Cfg)(b:Blk)(S:bz)(s:Dev):Out (Int×bz):=
 (kG fT c b s (S.fresh 0 0)).then fun x s1=>if x.1≠0 then (x.2.abort s1).then fun S2 s2=> .ok (x.1,S2) s2
  else (x.2.commit s1).then fun S2 s2=> .ok (0,S2) s2
def eB(bd:Nat)(c:Cfg)(S:bz)(s:Dev)(ws:List Int):Out (Option bB×Int×bz):=
 if (s.block c).2≠0 then .ok (none,(s.block c).2,S) s
 else ((dY bd c (s.block c).1 ((s.block c).1.rts++ws)).run s).then fun X s1=>(iI c X.block S s1).then fun x s2=>
  if x.1≠0 then .ok (none,x.1,x.2) s2 else .ok (some X,0,x.2) s2
theorem p7{s:Dev}{c:Cfg}(hc:bj c)(h:(s.block c).2=0):0<(s.block c).1.rts.length:=by
 have:=hc.r1
 unfold Dev.block at h ⊢
 split at h
 ·cases h
 ·rename_i h1;rw[if_neg h1];simp only[aX];omega
theorem nT{α:Type}(l:List (Int×α))(k:Int)(a:α):(mset l k a).length≤l.length+1:=by
 induction l with
 | nil=>simp[mset]
 | cons p t ih=>unfold mset;split<;>simp<;>omega
theorem qj{S S':bz}{s s':Dev}{i v a:Int}(e:S.store s i v= .ok (a,S') s'):S'.dirty.length≤S.dirty.length+1:=by
 have h1:=nT S.dirty (i / 8) ()
 unfold bz.store at e
 split at e
 ·cases e;omega
 ·split at e
  ·obtain⟨x,t,e1,e⟩:=aG e
   split at e
   ·cases e;simp only;omega
   ·obtain⟨y,u,e2,e⟩:=aG e
    cases e;exact h1
  ·obtain⟨y,u,e2,e⟩:=aG e
   cases e;exact h1
theorem iW:∀ (l:List Int) (i:Int) (S S':bz) (s s':Dev) (a:Int),gz fT l i s S= .ok (a,S') s'→S'.dirty.length≤S.dirty.length+l.length
 | [],i,S,S',s,s',a,e=>by cases e;simp
 | v::vs,i,S,S',s,s',a,e=>by
   unfold gz at e
   split at e
   ·have:=iW vs _ _ _ _ _ _ e;simp only[List.length_cons];omega
   ·obtain⟨⟨x,S1⟩,s1,e1,e⟩:=aG e
    have h1:=qj e1
    split at e
    ·cases e;simp only[List.length_cons];omega
    ·have:=iW vs _ _ _ _ _ _ e;simp only[List.length_cons] at this ⊢;omega
structure zI(S:bz)(bd:Nat)(c:Cfg)(s:Dev):Prop where
 w:dD S.L
 n:s.n≤1000000
 d:S.L.d=bd
 c:S.L.c=c
theorem vI(B:World)(Fr:List HP)(bs x bd:Nat)(S:bz)(X:bB)(hX:eT X)(hrl0:0<X.b.rts.length)(c:Cfg)(s:Dev)(hu:U64 s)(hK:zI S bd c s):
 ∀ w,Holds B (fa bs S::eI x X::az bd s::Fr) w→Calls Tryz.prog 172 [ptr bd,dQ c,ptr bs,ptr x].toArray w (Ret B (fun rv H'=>∃ a S' s',iI c X.block S s= .ok (a,S') s'∧rv=i64 a∧H'=fa bs S'::eI x X::az bd s'::Fr) (fun ch H'=>∃ s',iI c X.block S s= .off s'∧ch=dN∧H'=az bd s'::Fr)):=by
 refine ap func172 aa ntmps172 aa ?_
 have hrl:=hX.rl
 have hbb:=hX.b.act
 have hbf:=hX.free
 have hbw:∀ v∈X.block.rts,0≤v∧v<18446744073709551616:=fun v hv=>by
  obtain⟨u,_,rfl⟩:=List.mem_map.1 hv
  have:=hX.vb u
  omega
 have hfb:=hX.fb
 have hto:=hX.to_
 refine ac (ab (kPb (aY aa) aa fun b5=>(kPa aa aa (ad (ac (ac (ab (kPm aa aa (kPv (aP aa (vY)) aa (aU [1] (dM aa (ar call83 aa) (jb B _ bs S 0 0) .free aa aa ?_)))))))))))
 refine kPa aa aa (ad (ac (ab (kPm aa aa (kPv (am aa aa aa) aa (ad (bE aa (rfl) (aq (ac (ac (cM [0,1,2,4,5,3,6,7] [3,6] [0,1,4,5] [3] [row b5 [i64 c.log,i64 c.roots,i64 c.space] 134] Tryz.mixed (by kernel_rfl) ?_)))))))))))
 refine an aa aa aa (ak aa) .free aa (an aa aa aa (ah isAgg134 sizeOf134 aa aa) .free aa ?_)
 refine aV aa aa aa (ak aa) .free aa (an aa aa aa (ak aa) .free aa (an aa aa aa (dt aa aa) .free aa (aR aa aa (aU [2] (aI aa (ar call167 aa) (l3 B _ x X hX) .free aa aa ?_)))))
 rintro _ _ ⟨bsv,hbsv,rfl,rfl⟩
 refine cx fun qb cb hqb hqi=> ?_
 subst hqb
 refine ad (cK (aR aa aa (aU [4,2] ?_)))
 refine aS aa (ar call205 aa) (wu B _ _ _ bd bs bz (fun b S=>iB b S) _ _ (tG B bd bs c) c (hK.c▸hK.w.c) X.block (by simp only[bB.block];omega) hbw (by simp only[bB.block,List.length_map];omega) (by simp only[bB.block,List.length_map];omega) (.slice qb X.block.rts.length cb) aa (cH 0 aa) s (S.fresh 0 0) ⟨hu,hK.n,⟨hK.w,fun _ h=>(by cases h)⟩,hK.d,hK.c⟩) .free rfl rfl ?_ ?_
 rotate_left
 ·rintro _ _ ⟨s9,hm9,rfl,rfl⟩
  exact a8 fun w hh=>⟨_,⟨s9,by unfold iI kG;rw[show gz fT (X.block.act::X.block.used::X.block.rts) c.active s (S.fresh 0 0)= .off s9 from hm9];rfl,rfl,rfl⟩,hh.dp [1,1,1]⟩
 rintro _ _ ⟨a2,S2,s2,hm2,rfl,hok2,rfl⟩
 obtain⟨hu2,hn2,hw2,hd2,hc2⟩:=hok2
 obtain rfl:=hd2
 refine ad (cU aa (aV aa aa aa (bA aa) .free aa (cC (ao [10,8,2] rfl (ac (ab (kPm aa aa (kPv (am aa aa aa) aa (ad ?_)))))))))
 refine ba aa (fun h25=> ?_) (fun h25=> ?_)
 ·have he:a2≠0:=by simpa using h25
  refine ac (ab (kPm aa aa (aU [1,0] ?_)))
  refine aS aa (ar call206 aa) (nx B _ bs S2 s2 hw2) .free aa aa ?_ ?_
  rotate_left
  ·rintro _ _ ⟨s9,hm9,rfl,rfl⟩
   exact a8 fun w hh=>⟨_,⟨s9,by unfold iI;rw[hm2];simp only[aQ];rw[if_pos he,hm9];rfl,rfl,rfl⟩,hh.dp [1,1,1]⟩
  rintro _ _ ⟨S3,s3,hm3,rfl,rfl⟩
  refine ad (ac (ab (kPm aa aa (kPa aa aa (ad (aB ?_))))))
  exact aw results172 aa (fun w hh=>⟨_,⟨a2,S3,s3,by unfold iI;rw[hm2];simp only[aQ];rw[if_pos he,hm3];rfl,rfl,rfl⟩,((hh.dp [2,3]).pk [0,1])⟩)
 ·have he:¬ a2≠0:=by simpa using h25
  refine aq (ac (ab (kPm aa aa (aU [1,0] ?_))))
  refine aS aa (ar call89 aa) (mi B _ bs S2 s2 hw2 (by have:=iW _ _ _ _ _ _ _ hm2;simp only[bz.fresh,bB.block,List.length_cons,List.length_map,List.length_nil] at this;omega)) .free aa aa ?_ ?_
  rotate_left
  ·rintro _ _ ⟨s9,hm9,rfl,rfl⟩
   exact a8 fun w hh=>⟨_,⟨s9,by unfold iI;rw[hm2];simp only[aQ];rw[if_neg he,hm9];rfl,rfl,rfl⟩,hh.dp [1,1,1]⟩
  rintro _ _ ⟨S3,s3,hm3,rfl,rfl⟩
  refine kPa aa aa (ad (aB ?_))
  exact aw results172 aa (fun w hh=>⟨_,⟨0,S3,s3,by unfold iI;rw[hm2];simp only[aQ];rw[if_neg he,hm3];rfl,rfl,rfl⟩,((hh.dp [2,3]).pk [0,1])⟩)
theorem dT{B:World}{σ:Env}{Fr:List HP}{P:Program}{T:TypeId}{enc:Int→Value}{sv:Value}{xs:List Int}{d:Option Tmp}{ty:TypeId}{p:String}{af:Array Edge}{g:Option (Nat×Bool)}{t:TypeId}{x y:Operand}{at_:Array TypeId}{u:TypeId}{ud:TypeDesc}{ys:List Int}{z yv:Value}
 (ha:at_[0]? =some t) (ha':at_[1]? =some u) (ht:∀ w,(underlying t).run P w= .ok (.slice T) w) (hu:∀ w,(underlying u).run P w= .ok ud w) (hud:∃ q,ud= .slice q) (hs:∀ w,(sizeOf T).run P w= .ok 1 w) (hz:∀ w,(zeroValue T).run P w= .ok z w) (hz1:aL z=true) (he1:∀ v,aL (enc v)=true) (hfb:dR P T)
 (hx:evO σ x=some sv) (hy:evO σ y=some yv) (hr:SlR B Fr yv (ys.map enc)) (hn:xs.length+ys.length≤1000000000):
 Chg P B σ (dC T enc 0 (sv,xs)::Fr) ⟨d,.call ⟨.builtin .append, #[x,y],at_⟩,ty,p,af,g⟩ (fun v' H'=>aL v'=true∧H'=dC T enc 0 (v',xs++ys)::Fr):=by
 by_cases h0:0<ys.length
 ·exact j7 ha ha' ht hu hud hs hz hz1 he1 hfb hx hy hr h0 hn
 obtain rfl:ys=[]:=List.length_eq_zero_iff.1 (by omega)
 intro a w kn hh
 obtain⟨q,rfl⟩:=hud
 obtain⟨sq,scap,e0,_⟩:=hr.ex
 subst e0
 have hf:(Builtin.firstCells 1 0 (.slice sq 0 scap)).run P w= .ok #[] w:=by
  have:=hr.first (P:=P) (w:=w) hh.tail 0 (Nat.zero_le _)
  simpa using this
 have hsl:∃ q n c,sv= .slice q n c∧n≤c:=by
  rcases fu hh with ⟨_,h2,_⟩ | ⟨bd,pre,rest,k,_,h1,_⟩
  ·exact⟨_,_,_,h2,Nat.le_refl _⟩
  ·exact⟨_,_,_,h1,Nat.le_add_right _ _⟩
 obtain⟨q2,n2,c2,rfl,hc2⟩:=hsl
 refine⟨.value (.slice q2 n2 c2),w,?_,_,.inl aa,_,⟨rfl,rfl⟩,by simpa using hh⟩
 simp only[execOp,resolve,Sem.run_bind,Sem.run_pure,Result.andThen_ok]
 simp only[List.map_nil,List.length_nil] at hy
 cases q2<;>simp[invoke,builtin,Builtin.append_,ha,ha',hu,kn.eval hx,kn.eval hy,ht,hs,Builtin.lenOf,hc2,hf,storeCells]
theorem mJ{s s':Dev}{i v a:Int}(e:s.store i v= .ok a s'):s'.n=s.n:=by
 unfold Dev.store at e
 split at e
 ·cases e;rfl
 split at e
 ·cases e
 ·cases e;rfl
theorem mO{s s':Dev}{i a:Int}(e:s.flush i= .ok a s'):s'.n=s.n:=by
 unfold Dev.flush at e
 split at e
 ·cases e;rfl
 split at e
 ·cases e
 ·cases e;rfl
theorem mP{s s':Dev}{a:Unit}(e:s.fence= .ok a s'):s'.n=s.n:=by
 unfold Dev.fence at e
 split at e
 ·cases e
 ·cases e;rfl
theorem zv:∀ (k:Nat) (i a f:Int) (s s':Dev),pd k i a f s= .ok () s'→s'.n=s.n
 | 0,_,_,_,s,s',e=>by cases e;rfl
 | k+1,i,a,f,s,s',e=>by
   rw[l0] at e
   obtain⟨_,s1,e1,e⟩:=aG e
   exact(zv k _ _ _ _ _ e).trans (mJ e1)
theorem sY{S:bB}{s s':Dev}{w:Int}{r:Int×bB}(e:S.copied s w= .ok r s'):s'.n=s.n:=by
 unfold bB.copied at e
 split at e
 ·cases e;rfl
 split at e
 ·cases e;rfl
 split at e
 ·cases e;rfl
 obtain⟨_,s1,e1,e⟩:=aG e
 cases e
 exact zv _ _ _ _ _ _ e1
theorem qx:∀ (k:Nat) (i:Int) (S S':bB) (s s':Dev),jx k i S s= .ok S' s'→s'.n=s.n
 | 0,_,S,S',s,s',e=>by cases e;rfl
 | k+1,i,S,S',s,s',e=>by
   rw[gP] at e
   split at e
   ·exact qx k _ _ _ _ _ e
   ·obtain⟨r,s1,e1,e⟩:=aG e
    obtain⟨_,s2,e2,e⟩:=aG e
    exact((qx k _ _ _ _ _ e).trans (mJ e2)).trans (sY e1)
theorem vn:∀ (f:Nat) (i e:Int) (s s':Dev) (a:Unit),ll f i e s= .ok a s'→s'.n=s.n
 | 0,_,_,s,s',a,e=>by cases e;rfl
 | f+1,i,e',s,s',a,e=>by
   rw[gh] at e
   split at e
   ·obtain⟨_,s1,e1,e⟩:=aG e
    exact(vn f _ _ _ _ _ e).trans (mO e1)
   ·cases e;rfl
theorem xK{S:bB}{s s':Dev}{r:Bool×bB}(e:S.step s= .ok r s'):s'.n=s.n:=by
 unfold bB.step at e
 split at e
 ·cases e;rfl
 split at e
 ·obtain⟨_,s1,e1,e⟩:=aG e
  cases e;exact sY e1
 ·split at e
  ·obtain⟨_,s1,e1,e⟩:=aG e
   cases e;exact qx _ _ _ _ _ _ e1
  ·obtain⟨_,s1,e1,e⟩:=aG e
   cases e
   unfold bB.keep at e1
   obtain⟨_,s2,e2,e1⟩:=aG e1
   have h2:=vn _ _ _ _ _ _ e2
   split at e1
   ·exact(mP e1).trans h2
   ·cases e1;exact h2
theorem u3{S S':bB}{s s':Dev}(e:S.run s= .ok S' s'):s'.n=s.n:=by
 unfold bB.run at e
 revert e
 generalize S.meas+1=f
 intro e
 induction f generalizing S s with
 | zero=>cases e;rfl
 | succ f ih=>
   rw[iF] at e
   obtain⟨r,s1,e1,e⟩:=aG e
   split at e
   ·cases e;exact xK e1
   ·exact(ih e).trans (xK e1)
theorem sN(B:World)(Fr:List HP)(bs bd:Nat)(S:bz)(c:Cfg)(hc:bj c)(s:Dev)(hu:U64 s)(hK:zI S bd c s)(q:Option Addr)(cap:Nat)(ws:List Int)(hwn:ws.length≤900000)(hws:∀ v∈ws,0≤v∧v<18446744073709551616)(hwl:SlR B Fr (.slice q ws.length cap) (ws.map w64)):
 ∀ w,Holds B (fa bs S::az bd s::Fr) w→Calls Tryz.prog 116 [ptr bd,dQ c,ptr bs,.slice q ws.length cap].toArray w (Ret B (fun rv H'=>∃ r s',eB bd c S s ws= .ok r s'∧((r.1=none∧rv= .tuple #[.pointer none,i64 r.2.1]∧H'=fa bs r.2.2::az bd s'::Fr)∨(∃ x X,r.1=some X∧r.2.1=0∧rv= .tuple #[ptr x,i64 0]∧H'=eI x X::fa bs r.2.2::az bd s'::Fr))) (fun ch H'=>∃ s',eB bd c S s ws= .off s'∧ch=dN∧H'=az bd s'::Fr)):=by
 refine ap func116 aa ntmps116 aa (ac (ab (kPb (aY aa) aa fun b5=>(kPa aa aa (kPa aa aa (ad (ac (ac (ab (kPm aa aa (ax aa (ar call80 aa) (bF (q:=fa) (fun Fr=>lM B Fr bs S)) .free aa aa ?_)))))))))))
 refine ad (bE aa (rfl) (aq (ac (ab (kPm aa aa (kPv (ah isAgg134 sizeOf134 aa aa) aa ?_))))))
 refine aU [2] (aI aa (ar call117 aa) (fI _ _ _ _ c hc hu) .free aa aa ?_)
 rintro _ _ ⟨sv,hsv,rfl,rfl⟩
 have hbk:=dA (s:=s) hc hu
 have hrl:=fy (s:=s) hc
 refine kPm aa aa (kPv (aA aa aa) aa (kPv (aA aa aa) aa (kPb (aE zeroValue151 aa) aa fun b10=> ?_)))
 refine kPs (ay (vs:=_) sizeOf151 aa aa aa (by first | rfl | exact eC (by assumption)) rfl) rfl ?_;refine kPa aa aa ?_;refine ad ?_;refine ao [11,10,9,8,5,0,2,3] rfl ?_;refine ac ?_;refine ac ?_;refine ab ?_;refine kPm aa aa ?_;refine kPv (am aa aa aa) aa ?_;refine ad ?_
 refine ba aa (fun h23=> ?_) (fun h23=> ?_)
 ·have he:(s.block c).2≠0:=by simpa using h23
  have hres:eB bd c S s ws= .ok (none,(s.block c).2,S) s:=by unfold eB;rw[if_pos he]
  refine ac (ab (kPm aa aa (kPa aa aa (kPa aa aa (ad (aB ?_))))))
  exact bY results116 aa aa (fun w hh=>⟨_,⟨_,_,hres,.inl ⟨rfl,rfl,rfl⟩⟩,((hh.dp [0,0,1]).pk [1])⟩)
 ·have he:(s.block c).2=0:=by simpa using h23
  have hrl0:0<(s.block c).1.rts.length:=p7 hc he
  refine aU [1] (cx fun qo co hqo hqoi=> ?_)
  subst hqo
  refine aM (H':=cN 0 (.slice qo (s.block c).1.rts.length co,(s.block c).1.rts)::row b10 [i64 (s.block c).1.act,i64 (s.block c).1.used,.slice qo (s.block c).1.rts.length co] 151::az bd s::row b5 [i64 c.log,i64 c.roots,i64 c.space] 134::fa bs S::Fr) (fun w hh=>by have h:=hh;exact h) (aq (ac (cM [0,1,2,4,5,7,3,6,8,9,10] [3,6,8,9] [0,1,2,4,5,7] [3,6,8] [row b5 [i64 c.log,i64 c.roots,i64 c.space] 134,row b10 [i64 (s.block c).1.act,i64 (s.block c).1.used,.slice qo (s.block c).1.rts.length co] 151] Tryz.mixed (by kernel_rfl) ?_)))
  refine an aa aa aa (ak aa) .free aa (an aa aa aa (ah isAgg134 sizeOf134 aa aa) .free aa ?_)
  refine an aa aa aa (ah isAgg151 sizeOf151 aa aa) .free aa ?_
  refine an aa aa aa (aF (m:=_) eP aa aa) .free aa (an aa aa aa (ai isAgg30 aa aa) .free aa (an aa aa aa (ak aa) .free aa (aR aa aa (kPb (ur runUnderlying30 sizeOf25) aa fun b28=>(aM (H':=cN 0 (.slice (some ⟨b28,0,none⟩) 0 0,[])::_) (fun w hh=>gH (xs:=[]) aa aa hh) (ad (cK (aR aa aa (cP aa (dT (yv:= .slice qo (s.block c).1.rts.length co) (ys:=(s.block c).1.rts) aa aa runUnderlying30 runUnderlying30 ⟨_,rfl⟩ sizeOf25 zeroValue25 aa (fun _=>rfl) ik aa aa (cH 0 aa) (by simp;omega)) .free aa aa ?_)))))))))
  rintro nv2 _ ⟨hnv2,rfl⟩
  refine ad (cK (aR aa aa (cP aa (dT (yv:= .slice q ws.length cap) (ys:=ws) aa aa runUnderlying30 runUnderlying30 ⟨_,rfl⟩ sizeOf25 zeroValue25 aa (fun _=>rfl) ik aa aa hwl.up (by simp;omega)) .free aa aa ?_)))
  rintro nv3 _ ⟨hnv3,rfl⟩
  refine cx fun qn cn hqn0 hqni=> ?_
  subst hqn0
  have hqn:qn=none→(s.block c).1.rts++ws=[]:=fun e=>by
   cases hl:(s.block c).1.rts++ws with
   | nil=>rfl
   | cons a t=>
     obtain⟨b,o,h⟩:=hqni 0 (by show 0<((s.block c).1.rts++ws).length;rw[hl];exact Nat.succ_pos _)
     rw[e] at h;cases h
  refine ad (cK (aR aa aa (aU [1] (aI aa (ar call133 aa) (q5 B _ bd c hc (s.block c).1 hbk (.slice qo (s.block c).1.rts.length co) aa qn cn ((s.block c).1.rts++ws) (by rw[List.length_append];omega) hqn (cH 1 aa)) .free aa aa ?_))))
  rintro _ _ ⟨x,rfl,rfl⟩
  have hX0:eT (dY bd c (s.block c).1 ((s.block c).1.rts++ws)):=lj hc hbk hrl (fx hu) (fun v hv=>by
   rcases List.mem_append.1 hv with hv | hv
   ·exact fx hu v hv
   ·exact hws v hv)
  refine ad (cU aa (aV aa aa aa (bA aa) .free aa (cC (ao [12,9,8,5,0,2] rfl (ac (ab (kPm aa aa (aU [0,2] ?_))))))))
  refine aS aa (ar call135 aa) (vV B _ x (dY bd c (s.block c).1 ((s.block c).1.rts++ws)) hX0 s hu) .free aa aa ?_ ?_
  rotate_left
  ·rintro _ _ ⟨s9,hm9,rfl,rfl⟩
   exact a8 fun w hh=>⟨_,⟨s9,by unfold eB;rw[if_neg (by omega)];rw[hm9];rfl,rfl,rfl⟩,hh.dp [1,1,1,1]⟩
  rintro _ _ ⟨X,s1,hm1,rfl,rfl⟩
  obtain⟨hX,hu1,hXb,hXbd,hXc,hXto⟩:=nA _ _ _ _ _ hX0 hu hm1
  have hn1:=u3 hm1
  refine ad (ac (ac (ab (kPm aa aa (kPv (ah isAgg134 sizeOf134 aa aa) aa ?_)))))
  refine kPm aa aa (kPm aa aa (aU [5,0,0] ?_))
  refine aS aa (ar call172 aa) (vI B _ bs x bd S X hX (by rw[hXb];exact hrl0) c s1 hu1 ⟨hK.w,by rw[hn1];exact hK.n,hK.d,hK.c⟩) .free aa aa ?_ ?_
  rotate_left
  ·rintro _ _ ⟨s9,hm9,rfl,rfl⟩
   exact a8 fun w hh=>⟨_,⟨s9,by unfold eB;rw[if_neg (by omega)];rw[hm1];simp only[aQ];rw[hm9];rfl,rfl,rfl⟩,hh.dp [1,1,1]⟩
  rintro _ _ ⟨a2,S2,s2,hm2,rfl,rfl⟩
  refine kPa aa aa (ad (ao [13,12,9,8] rfl (ac (ab (kPm aa aa (kPv (am aa aa aa) aa (ad ?_)))))))
  refine ba aa (fun h43=> ?_) (fun h43=> ?_)
  ·have ha2:a2≠0:=by simpa using h43
   refine ac (ab (kPm aa aa (kPa aa aa (kPa aa aa (ad (aB ?_))))))
   exact bY results116 aa aa (fun w hh=>⟨_,⟨(none,a2,S2),s2,by unfold eB;rw[if_neg (by omega),hm1];simp only[aQ];rw[hm2];simp only[aQ];rw[if_pos ha2],.inl ⟨rfl,rfl,rfl⟩⟩,(hh.dp [1,2,2,2])⟩)
  ·have ha2:¬ a2≠0:=by simpa using h43
   refine aq (ac (ab (kPm aa aa (kPa aa aa (kPa aa aa (ad (aB ?_)))))))
   exact bY results116 aa aa (fun w hh=>⟨_,⟨(some X,0,S2),s2,by unfold eB;rw[if_neg (by omega),hm1];simp only[aQ];rw[hm2];simp only[aQ];rw[if_neg ha2],.inr ⟨x,X,rfl,rfl,rfl,rfl⟩⟩,((hh.dp [3,3,3]).pk [1])⟩)
end Go.Proofs.YtoakdoeajpjgkaaGreatDoor
