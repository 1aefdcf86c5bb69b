/- Part of a law's texts. Conditions: none. -/
import Derived.Test.YtlcibdhmgclfjaaGreatQL17Rl
import Derived.Laws.Externs
open Go.Proofs.Tryz
set_option linter.all false
namespace Go.Proofs.YtlcibdhmgclfjaaGreat
open Go
theorem tW:∀ (k:Nat) (i:Int) (S S':bE) (s s':Dev),ev S→U64 s→S.todo=[]→jG k i S s= .ok S' s'→ev S'∧U64 s'∧S'.scan=S.scan∧S'.todo=[]∧S'.done=S.done∧S'.b=S.b∧S'.bd=S.bd∧S'.c=S.c∧S'.to_=S.to_∧S.free≤S'.free∧S'.free - S.free+66*(S.b.used.toNat - S'.went.length:Nat)≤66*(S.b.used.toNat - S.went.length:Nat)
 | 0,_,S,S',s,s',h,hu,ht,e=>by cases e;exact⟨h,hu,rfl,ht,rfl,rfl,rfl,rfl,rfl,Int.le_refl _,by omega⟩
 | k+1,i,S,S',s,s',h,hu,ht,e=>by
   unfold jG at e
   split at e
   ·exact tW k _ S S' s s' h hu ht e
   ·obtain⟨r,s1,e1,e⟩:=aM e
    obtain⟨_,s2,e2,e⟩:=aM e
    obtain⟨h1,hv,h2,h3,h4,h5,h6,h7,h8,h9,h10⟩:=n4 h e1
    have u1:=lm hu e1
    have u2:=cQ u1.1 (by omega) e2
    obtain⟨g1,gu,g2,g3,g4,g5,g6,g7,g8,g9,g10⟩:=tW k _ r.2 S' s2 s' h1 u2.1 (h3.trans ht) e
    rw[h5] at g10
    exact⟨g1,gu,g2.trans h2,g3,g4.trans h4,g5.trans h5,g6.trans h6,g7.trans h7,g8.trans h8,Int.le_trans h9 g9,by omega⟩
theorem te:∀ (f:Nat) (i e:Int) (s s':Dev) (a:Unit),U64 s→keepN f i e s= .ok a s'→U64 s'
 | 0,_,_,s,s',a,h,e=>by cases e;exact h
 | f+1,i,e',s,s',a,h,e=>by
   unfold keepN at e
   split at e
   ·obtain⟨_,s1,e1,e⟩:=aM e
    exact te f _ _ s1 s' a (eC h e1).1 e
   ·cases e;exact h
theorem Be{S:bE}{s s':Dev}{a:Unit}(h:U64 s)(e:S.keep s= .ok a s'):U64 s':=by
 unfold bE.keep at e
 obtain⟨_,s1,e1,e⟩:=aM e
 have h1:=te _ _ _ _ _ _ h e1
 split at e
 ·exact(fN h1 e).1
 ·cases e;exact h1
theorem lI{S:bE}(h:ev S){s s':Dev}(hu:U64 s){r:Bool×bE}(e:S.step s= .ok r s'):ev r.2∧U64 s'∧r.2.b=S.b∧r.2.bd=S.bd∧r.2.c=S.c∧r.2.to_=S.to_∧r.1=r.2.done∧(r.1=false→r.2.meas<S.meas):=by
 have hwl:=h.wl;have hfb:=h.fb
 unfold bE.step at e
 split at e
 ·rename_i hd;cases e;exact⟨h,hu,rfl,rfl,rfl,rfl,hd.symm,fun hh=>by cases hh⟩
 rename_i hd
 have hd0:S.done=false:=by simpa using hd
 split at e
 ·rename_i w t ht
  obtain⟨r1,s1,e1,e⟩:=aM e
  cases e
  obtain⟨h1,_,h2,h3,h4,h5,h6,h7,h8,h9,h10⟩:=n4 h e1
  refine⟨⟨h1.c,h1.b,h1.rl,h1.to_,h1.scan,h1.free,h1.nd,h1.rng,h1.val,fun v hv=>h.todo v (by rw[ht];exact List.mem_cons_of_mem _ hv),h1.rts⟩,(lm hu e1).1,h5,h6,h7,h8,by simp only[h4,hd0],fun _=> ?_⟩
  unfold bE.meas
  simp only[ht,h2,h4,h5,List.length_cons]
  split<;>omega
 ·rename_i ht
  have hub:=sE (s.load S.scan)
  split at e
  ·rename_i hlt
   obtain⟨S1,s1,e1,e⟩:=aM e
   cases e
   obtain⟨h1,gu,h2,h3,h4,h5,h6,h7,h8,h9,h10⟩:=tW _ _ _ _ _ _ h hu ht e1
   have hsc:=h.scan
   refine⟨⟨h1.c,h1.b,h1.rl,h1.to_,⟨by have:=h1.scan;simp only;omega,by simp only;omega⟩,h1.free,h1.nd,h1.rng,h1.val,h1.todo,h1.rts⟩,gu,h5,h6,h7,h8,by simp only[h4,hd0],fun _=> ?_⟩
   unfold bE.meas
   simp only[ht,h2,h3,h4,h5]
   split<;>omega
  ·obtain⟨_,s1,e1,e⟩:=aM e
   cases e
   exact⟨⟨h.c,h.b,h.rl,h.to_,h.scan,h.free,h.nd,h.rng,h.val,h.todo,h.rts⟩,Be hu e1,rfl,rfl,rfl,rfl,rfl,fun hh=>by cases hh⟩
def EO(x bd:Nat)(sc:Int):HP:=hex fun (y:Nat→Value)=>row x [ptr bd,y 1,y 2,y 3,y 4,y 5,y 6,y 7,i64 sc,y 9,y 10,y 11,y 12] 191
theorem Fd{B:World}{x:Nat}{S:bE}{Fr:List HP}{w:World}(h:Holds B (fw x S::Fr) w):Holds B [EO x S.bd S.scan] w:=by
 obtain⟨p,hx⟩:=h.hex
 refine Holds.unhex (fun i=>(fU S p.1 p.2.1 p.2.2).getD i .nilIface) ?_
 have h2:=hx.grp
 exact h2.map fun k a=>by
  obtain⟨h1,h2,d,s1,s2,ha,hl⟩:=a
  exact⟨h1,h2,d,s1,s2,ha,trivial⟩
instance oZ.colf {H Fr:List HP} {x:Nat} {S:bE} [r:r7 H (fw x S) Fr]:oZ H [EO x S.bd S.scan]:=⟨fun h hh=>by
 obtain⟨i,h1,h2⟩:=r.get
 obtain⟨k1,k2,d,s1,s2,⟨p,hp⟩,hl⟩:=ea i h1 hh
 obtain⟨g1,g2,d',t1,t2,ha,hg⟩:=hp
 exact⟨g1,fun _=>none,fun _=> .inr aa,t1.trans s1,(fun _ _ e=>nomatch e),⟨fun i=>(fU S p.1 p.2.1 p.2.2).getD i .nilIface,ha⟩,trivial⟩⟩
theorem BQ{B:World}{σ:Env}{P:Program}{α:Type}{A:α→HP}{o:Oper}{v:Value}(h:∀ y,Evs P B σ [A y] o v):Evs P B σ [hex A] o v:=fun a w kn hh=>by
 obtain⟨y,hy⟩:=hh.hex
 exact h y a w kn hy
theorem C3{B:World}{n:Nat}{D:List Deferred}{σ:Env}{H H0:List HP}{P:Program}{ro:Cx}{K:Act→World→Prop}{X:Ext}{ops:Array Oper}{ms hs cs:List Nat}{ord:List Nat}{c:Bool}(f:∀ w,Holds B H w→Holds B H0 w)(h:GO B n D σ H (wpV P ro ops ms hs cs (Holds B H0) X K ord)):GO B n D σ H (fun a w=>(c=true→Holds B H0 w)∧wpV P ro ops ms hs cs (Holds B H0) X K ord a w):=fun a w s=>⟨fun _=>f w s.holds,h a w s⟩
theorem fA(f:Nat)(i e:Int)(s:Dev):keepN (f+1) i e s=if i<e then (s.flush i).then fun _ s'=>keepN f (i+8) e s' else .ok () s:=rfl
theorem gk(k:Nat)(i:Int)(S:bE)(s:Dev):jG (k+1) i S s=if s.load (S.scan+1+i)=0 then jG k (i+1) S s else (S.copied s (s.load (S.scan+1+i))).then fun r s1=>(s1.store (S.scan+1+i) r.1).then fun _ s2=>jG k (i+1) r.2 s2:=rfl
theorem hZ(f:Nat)(S:bE)(s:Dev):so (f+1) S s=(S.step s).then fun r s'=>if r.1=true then .ok r.2 s' else so f r.2 s':=rfl
theorem B1(B:World)(Fr:List HP)(x:Nat)(S:bE)(hS:ev S)(s:Dev)(hu:U64 s):
 ∀ w,Holds B (fw x S::aG S.bd s::Fr) w→Calls Tryz.prog 159 [ptr x].toArray w (Ret B (fun rv H'=>∃ r s',S.keep s= .ok r s'∧rv=DF r∧H'=fw x {S with done:=true}::aG S.bd s'::Fr) (fun c H'=>∃ s',S.keep s= .off s'∧c=dN∧H'=aG S.bd s'::Fr)):=by
 refine au func159 aa ntmps159 aa (kZ fun rsv tsv mw hrsv htsv=> ?_)
 have hfb:=hS.fb
 have hfr:=hS.free
 have hto:=hS.to_
 refine ac (ac (ab (kPm aa aa (kPv (ak aa) aa (kPv (aj (m:=_) rF aa aa) aa (kPv (ae isAgg3 aa aa) aa (kPa aa aa (ad (aO ?_)))))))))
 refine cR (ι:=Int×Nat×Dev) [0] (fun (i,n,sI)=>(S.to_≤i∧i≤400000)∧(S.free - i≤n)∧(keepN ((S.free - S.to_).toNat+1) S.to_ S.free s=keepN (n+1) i S.free sI)) (fun (i,n,sI)=>[(2,i64 i)]) (fun (i,n,sI)=>row x (fU S rsv tsv mw) 191::dy 0 (rsv,S.b.rts)::dy 0 (tsv,S.todo)::bJ .u64 i64 mw S.went::aG S.bd sI::Fr) (fun (i,n,sI)=>n) (S.to_,(S.free - S.to_).toNat,s) (⟨⟨by first | omega | (simp only;omega),by first | omega | (simp only;omega)⟩,by first | omega | (simp only;omega),rfl⟩) (fun a w st=>st.to ⟨rfl,trivial⟩ (fun hh=>hh)) ?_
 rintro⟨i,n,sI⟩ ⟨hi0,hn,hinv⟩
 try simp only at hi0 hn hinv ⊢
 refine cg (σ':=[(2,i64 i),(0,_)]) ⟨rfl,rfl,trivial⟩ (ac (ac (ab (kPm aa aa (kPm aa aa (kPv (ak aa) aa (kPv (aj (m:=_) ju aa aa) aa (kPv (ae isAgg3 aa aa) aa (kPv (an aa aa aa) aa (ad ?_))))))))))
 refine aW aa (fun h12=> ?_) (fun h12=> ?_)
 ·have hlt:i<S.free:=by simpa using h12
  refine ay (ac (aO (ab (kPm aa aa (kPv (ak aa) aa (kPv (aj (m:=_) iH aa aa) aa (kPv (ae isAgg28 aa aa) aa (kPm aa aa ?_))))))))
  refine aY aa (aA call126 aa) (da (fun Fr=>ed _ Fr _ _ _)) .free aa aa ?_ ?_
  rotate_left
  ·rintro _ _ ⟨s9,⟨hm9,rfl⟩,rfl⟩
   exact bz fun w hh=>⟨_,⟨s9,by unfold bE.keep;rw[hinv,fA,if_pos hlt,hm9];rfl,rfl,rfl⟩,(hh.dp [0,0,0,0])⟩
  rintro _ _ ⟨s1,⟨e1,hm1,rfl⟩,rfl⟩
  refine ad (ao [2,0] rfl (ab (kPm aa aa (kPv (aS aa aa) aa (kPa aa aa (ad ?_))))))
  exact fun a w st_=>⟨(i+8,n - 1,s1),⟨by first | omega | (simp only;omega),by first | omega | (simp only;omega),by rw[hinv,fA,if_pos hlt,hm1,show n=n - 1+1 by omega];rfl⟩,by first | omega | (simp only;omega),st_.to ⟨rfl,rfl,trivial⟩ (fun hh=>hh)⟩
 ·have hlt:¬ i<S.free:=by simpa using h12
  refine bT (ac (ac (cK Tryz.mixed (by kernel_rfl) (by kernel_rfl) ?_)))
  refine kQm aa aa (kQv (ak aa) aa (kQv (aj (m:=_) ju aa aa) aa (kQv (ae isAgg3 aa aa) aa (kQm aa aa (kQv (ak aa) aa (kQv (aj (m:=_) rF aa aa) aa (kQv (ae isAgg3 aa aa) aa (kQv (an aa aa aa) aa (bR (ao [29,0] rfl ?_))))))))))
  refine aW aa (fun h29=> ?_) (fun h29=> ?_)
  ·have hgt:S.to_<S.free:=by simpa using h29
   refine ab (kPm aa aa (kPv (ak aa) aa (kPv (aj (m:=_) iH aa aa) aa (kPv (ae isAgg28 aa aa) aa ?_))))
   refine aY aa (aA call127 aa) (da (fun Fr=>fK _ Fr _ _)) .free aa aa ?_ ?_
   rotate_left
   ·rintro _ _ ⟨s9,⟨hm9,rfl⟩,rfl⟩
    exact bz fun w hh=>⟨_,⟨s9,by unfold bE.keep;rw[hinv,fA,if_neg hlt];simp only[aX];rw[if_pos hgt];exact hm9,rfl,rfl⟩,(hh.dp [0,0,0,0])⟩
   rintro _ _ ⟨s2,⟨e2,hm2,rfl⟩,rfl⟩
   refine ad (ab (kPm aa aa (kPv (ak aa) aa (kPv (aj (m:=_) jt aa aa) aa (aD aa (aR sizeOf4 aa aa aa aa) .free aa ?_)))))
   rintro _ _ rfl
   refine ad (ao [] rfl ?_)
   exact cS results159 (fun w hh=>⟨_,⟨(),_,by unfold bE.keep;rw[hinv,fA,if_neg hlt];simp only[aX];rw[if_pos hgt];exact hm2,rfl,rfl⟩,c7 (S:={S with done:=true}) hrsv htsv hh⟩)
  ·have hgt:¬ S.to_<S.free:=by simpa using h29
   refine ay (ab (kPm aa aa (kPv (ak aa) aa (kPv (aj (m:=_) jt aa aa) aa (aD aa (aR sizeOf4 aa aa aa aa) .free aa ?_)))))
   rintro _ _ rfl
   refine ad ?_
   exact cS results159 (fun w hh=>⟨_,⟨(),_,by unfold bE.keep;rw[hinv,fA,if_neg hlt];simp only[aX];rw[if_neg hgt],rfl,rfl⟩,c7 (S:={S with done:=true}) hrsv htsv hh⟩)
theorem wb(B:World)(Fr:List HP)(x:Nat)(S:bE)(v:Int):
 ∀ w,Holds B (fw x S::Fr) w→Calls Tryz.prog 144 [ptr x,w64 v].toArray w (bB B (fw x S::Fr) (i64 ((bi S.went v).getD 0))):=by
 refine au func144 aa ntmps144 aa (kZ fun rsv tsv mw hrsv htsv=>(ac (ab (kPa aa aa (ad (ac (ab (kPm aa aa (kPv (ak aa) aa (kPv (aj (m:=_) nQ aa aa) aa (kPv (ae isAgg189 aa aa) aa ?_)))))))))))
 refine kPm aa aa (kPv ((mT runUnderlying189 runUnderlying26 zeroValue3 aa aa).eq (ow _)) aa (kPa aa aa (ad (ao [4] rfl (az ?_)))))
 exact ax results144 aa (fun w hh=>⟨rfl,c7 hrsv htsv hh⟩)
theorem l3(B:World)(Fr:List HP)(x:Nat)(S:bE)(hS:ev S)(s:Dev)(hu:U64 s):
 ∀ w,Holds B (fw x S::aG S.bd s::Fr) w→Calls Tryz.prog 99 [ptr x].toArray w (Ret B (fun rv H'=>∃ r s',S.step s= .ok r s'∧rv= .bool r.1∧H'=fw x r.2::aG S.bd s'::Fr) (fun c H'=>∃ s',S.step s= .off s'∧c=dN∧H'=aG S.bd s'::Fr)):=by
 refine au func99 aa ntmps99 aa (kZ fun rsv tsv mw hrsv htsv=> ?_)
 have hfb:=hS.fb
 have hfr:=hS.free
 have hto:=hS.to_
 have hscan:=hS.scan
 have hub:=sE (s.load S.scan)
 refine ac (ab (kPa aa aa (ad (ac (aO (ac (ab (kPm aa aa (kPv (ak aa) aa (kPv (aj (m:=_) jt aa aa) aa (kPv (ae isAgg4 aa aa) aa ?_)))))))))))
 refine kPa aa aa (ad ?_)
 refine aW aa (fun h9=> ?_) (fun h9=> ?_)
 ·have hdone:S.done=true:=h9
  have hres:S.step s= .ok (true,S) s:=by unfold bE.step;rw[if_pos hdone]
  refine ay (ac (ab (kPm aa aa (kPv (ak aa) aa (kPv (aj (m:=_) jt aa aa) aa (kPv (ae isAgg4 aa aa) aa (kPa aa aa (ad (ao [2] rfl (az ?_))))))))))
  exact ax results99 aa (fun w hh=>⟨_,⟨_,_,hres,by rw[hdone],rfl⟩,c7 hrsv htsv hh⟩)
 ·have hdone:S.done=false:=h9
  refine aJ [2] (cP fun qt ct hqt hqi=> ?_)
  subst hqt
  refine aJ [1,1,0,0] (ac (ab (kPm aa aa (kPv (ak aa) aa (kPv (aj (m:=_) nR aa aa) aa (kPv (ae isAgg25 aa aa) aa (kPv (bY aa runUnderlying25 ⟨_,rfl⟩ rfl) aa (kPv (an aa aa aa) aa (kPa aa aa (ad (ao [14,2,0] rfl ?_)))))))))))
  refine aW aa (fun h14=> ?_) (fun h14=> ?_)
  ·obtain⟨v,t,htd⟩:∃ v t,S.todo=v::t:=by
    cases ht:S.todo with
    | nil=>rw[ht] at h14;simp at h14
    | cons v t=>exact⟨v,t,rfl⟩
   obtain⟨bq,oq,rfl⟩:=hqi 0 (by rw[htd];exact Nat.succ_pos _)
   refine ac (ab (kPm aa aa (kPm aa aa (kPv (ak aa) aa (kPv (aj (m:=_) nR aa aa) aa (kPv (ae isAgg25 aa aa) aa (kPv (bZ runUnderlying25 sizeOf26 aa aa (by decide) (by rw[htd];simp only[List.length_cons];omega)) aa (kPv (bX (v:=w64 v) isAgg26 (de 2 aa) aa (by rw[htd];rfl)) aa (aK (fun w hh=>c7 hrsv htsv hh) ?_)))))))))
   refine aY aa (aA call157 aa) (rS B _ x S hS s hu v (hS.todo _ (by rw[htd];exact List.mem_cons_self ..))) .free aa aa ?_ ?_
   rotate_left
   ·rintro _ _ ⟨s9,hm9,rfl,rfl⟩
    exact bz fun w hh=>⟨_,⟨s9,by unfold bE.step;rw[if_neg (by rw[hdone];decide)];simp only[htd];rw[hm9];rfl,rfl,rfl⟩,hh⟩
   rintro _ _ ⟨r1,s1,hm1,rfl,rfl⟩
   obtain⟨hS1,hrv1,hsc1,htd1,hdn1,hb1,hbd1,hc1,hto1,hfr1,hms1⟩:=n4 hS hm1
   have hu1:=(lm hu hm1).1
   refine ad (ao [2,0] rfl (ab (kZ fun rsv2 tsv2 mw2 hrsv2 htsv2=>(kPm aa aa (kPm aa aa (kPv (ak aa) aa (kPv (aj (m:=_) nR aa aa) aa (aJ [2] (aK (H':=dy 0 (tsv2,v::t)::_) (fun w hh=>by rw[htd1,htd] at hh;exact hh) (kPv (ae isAgg25 aa aa) aa (aC aa (wm (v:=v) (xs:=t) runUnderlying25 sizeOf26 aa aa) .free aa aa ?_)))))))))))
   rintro tv3 _ ⟨htv3,rfl⟩
   refine aJ [1,1] (kPv (ak aa) aa (kPv (aj (m:=_) nR aa aa) aa ?_))
   refine aD aa (aR sizeOf25 aa aa (by first | rfl | assumption) rfl) .free rfl ?_
   rintro _ _ rfl
   refine ad (ao [2,0] rfl (ac (ab (kPm aa aa (kPv (ak aa) aa (kPv (aj (m:=_) jt aa aa) aa (kPv (ae isAgg4 aa aa) aa (kPa aa aa (ad (az ?_))))))))))
   exact ax results99 aa (fun w hh=>⟨_,⟨_,_,by unfold bE.step;rw[if_neg (by rw[hdone];decide)];simp only[htd];rw[hm1];rfl,by rw[hdn1,hdone],rfl⟩,c7 (S:={r1.2 with todo:=t}) hrsv2 htv3 hh⟩)
  ·have htd:S.todo=[]:=by
    cases ht:S.todo with
    | nil=>rfl
    | cons v t=>rw[ht] at h14;simp at h14<;>omega
   refine ac (cK Tryz.mixed (by kernel_rfl) (by kernel_rfl) ?_)
   refine kQm aa aa (kQv (ak aa) aa (kQv (aj (m:=_) kq aa aa) aa (kQv (ae isAgg3 aa aa) aa (kQm aa aa (kQv (ak aa) aa (kQv (aj (m:=_) ju aa aa) aa (kQv (ae isAgg3 aa aa) aa (kQv (an aa aa aa) aa (kQa aa aa (bR (ao [37,2,0] rfl ?_)))))))))))
   refine aW aa (fun h37=> ?_) (fun h37=> ?_)
   ·have hlt:S.scan<S.free:=by simpa using h37
    have hstep:S.step s=(jG (unp (s.load S.scan)).2.1.toNat 0 S s).then fun S' s'=> .ok (false,{S' with scan:=S'.scan+((unp (s.load S.scan)).1+1)}) s':=by unfold bE.step;rw[if_neg (by rw[hdone];decide)];simp only[htd];rw[if_pos hlt]
    refine ac ?_
    refine lb (.br [0,1,2,3,4,5,6,7] 8 (.br [] 9 (.fin [10,11,12,13,14,15]) 13 (.fin [9,10,11,12,14,15])) 13 (.fin [8,9,10,11,12,14,15])) [8,9,13,14] [0,1,2,3,4,5,6,7,10,11,12] [13,14] [row x (fU S rsv (.slice qt S.todo.length ct) mw) 191] [2,0] (G:=Nat) (fun b3=>[(3,ptr b3),(4,.bool (unp (s.load S.scan)).2.2)]) (fun b3=>row b3 [i64 (unp (s.load S.scan)).1,i64 (unp (s.load S.scan)).2.1] 38::row x (fU S rsv (.slice qt S.todo.length ct) mw) 191::dy 0 (rsv,S.b.rts)::dy 0 (.slice qt S.todo.length ct,S.todo)::bJ .u64 i64 mw S.went::aG S.bd s::Fr) Tryz.mixed (by kernel_rfl) ?_ ?_
    ·skip
     refine wF (al aa aa aa (ap aa) .free aa (al aa aa aa (ak aa) .free aa (al aa aa aa (aj (m:=_) iH aa aa) .free aa (al aa aa aa (ae isAgg28 aa aa) .free aa (al aa aa aa (ap aa) .free aa (al aa aa aa (ak aa) .free aa (al aa aa aa (aj (m:=_) kq aa aa) .free aa (al aa aa aa (ae isAgg3 aa aa) .free aa (cJ ?_)))))))))
     refine qg aa aa ?_ ?_
     ·skip
      refine aE aa (aA call71 aa) (bU (q:=aG) (fun Fr=>cH _ Fr _ _ _)) .free aa aa ?_
      refine ad (uV aa (wF (cJ ?_)))
      refine qg aa aa ?_ ?_
      ·skip
       refine aE aa (aA call158 aa) (j0 _ _ _) .free aa aa ?_
       refine ad (uV aa (jE (al aa aa aa (ap aa) .free aa (al aa aa aa (aB aa aa) .free aa (al aa aa aa (aB aa aa) .free aa (aU aa aa (aC aa (aN zeroValue38 aa) .free aa aa ?_)))))))
       rintro _ _ ⟨b3,rfl,rfl⟩
       refine ad (cN (aU aa aa (aD aa (aI (vs:=_) sizeOf38 aa aa aa aa aa) .free aa ?_)))
       rintro _ _ rfl
       refine ad (cN (aT aa aa aa (bK aa) .free aa (cJ ?_)))
       exact fun a w st_=>⟨b3,st_.to (aF aa) (fun hh=>hh)⟩
      ·skip
       refine aC aa (aN zeroValue38 aa) .free aa aa ?_
       rintro _ _ ⟨b3,rfl,rfl⟩
       refine ad (tP (jE (aU aa aa (aE aa (aA call158 aa) (j0 _ _ _) .free aa aa ?_))))
       refine ad (c9 aa (al aa aa aa (ap aa) .free aa (al aa aa aa (aB aa aa) .free aa (al aa aa aa (aB aa aa) .free aa (aU aa aa (aD aa (aI (vs:=_) sizeOf38 aa aa aa aa aa) .free aa ?_))))))
       rintro _ _ rfl
       refine ad (cN (aT aa aa aa (bK aa) .free aa (cJ ?_)))
       exact fun a w st_=>⟨b3,st_.to (aF aa) (fun hh=>hh)⟩
     ·skip
      refine aC aa (aN zeroValue38 aa) .free aa aa ?_
      rintro _ _ ⟨b3,rfl,rfl⟩
      refine ad (tP (jE (aU aa aa (aE aa (aA call71 aa) (bU (q:=aG) (fun Fr=>cH _ Fr _ _ _)) .free aa aa ?_))))
      refine ad (c9 aa (aU aa aa (aE aa (aA call158 aa) (j0 _ _ _) .free aa aa ?_)))
      refine ad (c9 aa (al aa aa aa (ap aa) .free aa (al aa aa aa (aB aa aa) .free aa (al aa aa aa (aB aa aa) .free aa (aU aa aa (aD aa (aI (vs:=_) sizeOf38 aa aa aa aa aa) .free aa ?_))))))
      rintro _ _ rfl
      refine ad (cN (aT aa aa aa (bK aa) .free aa (cJ ?_)))
      exact fun a w st_=>⟨b3,st_.to (aF aa) (fun hh=>hh)⟩
    intro b3
    refine cg (σ':=[(3,ptr b3),(4,.bool (unp (s.load S.scan)).2.2),(2,_),(0,_)]) (aF aa) (ac (ac (aJ [1,1,1,1] (aK (fun w hh=>c7 hrsv htsv hh) (ab (kPv (aj (m:=_) fP aa aa) aa (kPv (ae isAgg3 aa aa) aa (kPm aa aa (ad (aO ?_))))))))))
    refine cR (ι:=Nat×bE×Dev) [61,3,2,0] (fun (i,SI,sI)=>((i:Int)≤(unp (s.load S.scan)).2.1)∧(ev SI)∧(U64 sI)∧(SI.todo=[])∧(SI.done=S.done)∧(SI.bd=S.bd)∧(SI.scan=S.scan)∧(jG (unp (s.load S.scan)).2.1.toNat 0 S s=jG ((unp (s.load S.scan)).2.1.toNat - i) i SI sI)) (fun (i,SI,sI)=>[(62,i64 i)]) (fun (i,SI,sI)=>row b3 [i64 (unp (s.load S.scan)).1,i64 (unp (s.load S.scan)).2.1] 38::fw x SI::aG SI.bd sI::Fr) (fun (i,SI,sI)=>(unp (s.load S.scan)).2.1.toNat - i) (0,S,s) (⟨by first | omega | (simp only;omega),hS,hu,htd,rfl,rfl,rfl,rfl⟩) (fun a w st=>st.to ⟨rfl,trivial⟩ (fun hh=>(hh.pk [1]))) ?_
    rintro⟨i,SI,sI⟩ ⟨hi0,hSI,huI,htdI,hdI,hbdI,hscI0,hinv⟩
    try simp only at hi0 hSI huI htdI hdI hbdI hscI0 hinv ⊢
    refine cg (σ':=[(62,i64 i),(61,_),(3,_),(2,_),(0,_)]) (aF aa) (ac (ab (kPv (an aa aa aa) aa (ad (ac ?_)))))
    refine aW aa (fun h63=> ?_) (fun h63=> ?_)
    ·have hi:(i:Int)<(unp (s.load S.scan)).2.1:=by simpa using h63
     have hscI:=hSI.scan
     refine ay (ac (aO (ac (ab (kPm aa aa (kPa aa aa (ad (ac (aJ [1] (kZ fun rsv2 tsv2 mw2 hrsv2 htsv2=>(cK Tryz.mixed (by kernel_rfl) (by kernel_rfl) ?_)))))))))))
     refine kQm aa aa (kQv (ak aa) aa (kQv (aj (m:=_) iH aa aa) aa (kQv (ae isAgg28 aa aa) aa (kQm aa aa (kQv (ak aa) aa (kQv (aj (m:=_) kq aa aa) aa (kQv (ae isAgg3 aa aa) aa (kQv (aS aa aa) aa (kQm aa aa (kQv (aS aa aa) aa (bH aa (aA call71 aa) (bU (q:=aG) (fun Fr=>cH _ Fr _ _ _)) .free aa ?_)))))))))))
     refine kQa aa aa (bR (ao [6,5,62,61,3,2,0] rfl (ac (aK (fun w hh=>c7 hrsv2 htsv2 hh) (ab (kPm aa aa (kPv (an aa aa aa) aa (ad ?_))))))))
     refine aW aa (fun h78=> ?_) (fun h78=> ?_)
     ·have hne:¬ sI.load (SI.scan+1+i)=0:=by simpa using h78
      refine aJ [0,1] (aK (fun w hh=>hh) (cM [0,1,2,3,4,5,6,7,8,9,10,11,12,13,14,15] [13,15] [0,1,2,3,4,5,6,7,8,9,10] [13] [EO x SI.bd SI.scan] Tryz.mixed (by kernel_rfl) ?_))
      refine al aa aa aa (ap aa) .free aa (al aa aa aa (ak aa) .free aa (al aa aa aa (aj (m:=_) iH aa aa) .free aa (al aa aa aa (BQ fun y=>ae isAgg28 aa aa) .free aa (al aa aa aa (ap aa) .free aa (al aa aa aa (ak aa) .free aa (al aa aa aa (aj (m:=_) kq aa aa) .free aa (al aa aa aa (BQ fun y=>ae isAgg3 aa aa) .free aa (al aa aa aa (aS aa aa) .free aa (al aa aa aa (ap aa) .free aa (al aa aa aa (aS aa aa) .free aa (aT aa aa aa (ap aa) .free aa ?_)))))))))))
      refine aT aa aa aa (ap aa) .free aa (aU aa aa ?_)
      refine aY aa (aA call157 aa) (rS B _ x SI hSI sI huI (sI.load (SI.scan+1+i)) (huI.load _)) .free aa aa ?_ ?_
      rotate_left
      ·rintro _ _ ⟨s9,hm9,rfl,rfl⟩
       exact bz fun w hh=>⟨_,⟨s9,by rw[hstep,hinv,show(unp (s.load S.scan)).2.1.toNat - i=((unp (s.load S.scan)).2.1.toNat - (i+1))+1 by omega,gk,if_neg hne,hm9];rfl,rfl,rfl⟩,by rw[←hbdI];exact hh.dp [1]⟩
      rintro _ _ ⟨r2,s2,hm2,rfl,rfl⟩
      obtain⟨hS2,hrv2,hsc2,htd2,hdn2,hb2,hbd2,hc2,hto2,hfr2,hms2⟩:=n4 hSI hm2
      have hu2:=(lm huI hm2).1
      refine ad (C3 (fun w hh=>by have h5:=Fd hh;rw[hbd2,hsc2] at h5;exact h5) (aT aa aa aa (dh runUnderlying3 runUnderlying26 aa (fW (by omega))) .free aa (aU aa aa ?_)))
      refine aY aa (aA call120 aa) (da (fun Fr=>cZ _ Fr _ _ _ _)) .free aa aa ?_ ?_
      rotate_left
      ·rintro _ _ ⟨s9,⟨hm9,rfl⟩,rfl⟩
       exact bz fun w hh=>⟨_,⟨s9,by rw[hstep,hinv,show(unp (s.load S.scan)).2.1.toNat - i=((unp (s.load S.scan)).2.1.toNat - (i+1))+1 by omega,gk,if_neg hne,hm2];simp only[aX];rw[hm9];rfl,rfl,rfl⟩,by rw[←hbdI];exact(hh.dp [0,1])⟩
      rintro _ _ ⟨s3,⟨e3,hm3,rfl⟩,rfl⟩
      refine ad (c9 aa (cJ (ao [62,61,3,2,0] rfl (ab (kPv (aS aa aa) aa (kPm aa aa (ad ?_)))))))
      exact fun a w st_=>⟨(i+1,r2.2,s3),⟨by first | omega | (simp only;omega),hS2,(cQ hu2 (by omega) hm3).1,htd2.trans htdI,hdn2.trans hdI,hbd2.trans hbdI,hsc2.trans hscI0,by rw[hinv,show(unp (s.load S.scan)).2.1.toNat - i=((unp (s.load S.scan)).2.1.toNat - (i+1))+1 by omega,gk,if_neg hne,hm2];simp only[aX];rw[hm3];rfl⟩,by first | omega | (simp only;omega),st_.to (aF aa) (fun hh=>(by first | exact(hh.pk [2]) | (simp only[hbd2];exact(hh.pk [2]))))⟩
     ·have hne:sI.load (SI.scan+1+i)=0:=by simpa using h78
      refine ay (ab (kPv (aS aa aa) aa (kPm aa aa (ad ?_))))
      exact fun a w st_=>⟨(i+1,SI,sI),⟨by first | omega | (simp only;omega),hSI,huI,htdI,hdI,hbdI,hscI0,by rw[hinv,show(unp (s.load S.scan)).2.1.toNat - i=((unp (s.load S.scan)).2.1.toNat - (i+1))+1 by omega,gk,if_pos hne];rfl⟩,by first | omega | (simp only;omega),st_.to (aF aa) (fun hh=>(by first | exact(hh.pk [1]) | (simp only[hbd2];exact(hh.pk [1]))))⟩
    ·have hi:¬ (i:Int)<(unp (s.load S.scan)).2.1:=by simpa using h63
     have hscI:=hSI.scan
     refine bT (aJ [1] (kZ fun rsv3 tsv3 mw3 hrsv3 htsv3=>(cD 9 Tryz.mixed (by kernel_rfl) (by kernel_rfl) ?_)))
     refine kQm aa aa (kQv (ak aa) aa (kQv (aj (m:=_) kq aa aa) aa (kQv (ae isAgg3 aa aa) aa (kQv (am isAgg38 sizeOf38 aa aa) aa ?_))))
     refine bH aa (aA call114 aa) (fB _ _ _ _ (by omega)) .free aa ?_
     refine kQv (aS aa aa) aa (kQv (ak aa) aa (kQv (aj (m:=_) kq aa aa) aa (bR (aD aa (aR sizeOf3 aa aa aa aa) .free aa ?_))))
     rintro _ _ rfl
     refine ad (ao [2,0] rfl (ac (ab (kPm aa aa (kPv (ak aa) aa (kPv (aj (m:=_) jt aa aa) aa (kPv (ae isAgg4 aa aa) aa (kPa aa aa (ad (az ?_))))))))))
     exact ax results99 aa (fun w hh=>⟨_,⟨_,_,by rw[hstep,hinv,show(unp (s.load S.scan)).2.1.toNat - i=0 by omega];rfl,by rw[hdI,hdone],rfl⟩,by rw[←hbdI];exact c7 (S:={SI with scan:=SI.scan+((unp (s.load S.scan)).1+1)}) hrsv3 htsv3 (hh.dp [4])⟩)
   ·have hlt:¬ S.scan<S.free:=by simpa using h37
    refine aK (fun w hh=>c7 hrsv htsv hh) (ab (kPm aa aa ?_))
    refine aY aa (aA call159 aa) (B1 B _ x S hS s hu) .free aa aa ?_ ?_
    rotate_left
    ·rintro _ _ ⟨s9,hm9,rfl,rfl⟩
     exact bz fun w hh=>⟨_,⟨s9,by unfold bE.step;rw[if_neg (by rw[hdone];decide)];simp only[htd];rw[if_neg hlt,hm9];rfl,rfl,rfl⟩,hh⟩
    rintro _ _ ⟨r1,s1,hm1,rfl,rfl⟩
    refine kZ fun rsv4 tsv4 mw4 hrsv4 htsv4=>(ad (ac (ab (kPm aa aa (kPv (ak aa) aa (kPv (aj (m:=_) jt aa aa) aa (kPv (ae isAgg4 aa aa) aa (kPa aa aa (ad (ao [2] rfl (az ?_)))))))))))
    exact ax results99 aa (fun w hh=>⟨_,⟨(true,{S with done:=true}),s1,by unfold bE.step;rw[if_neg (by rw[hdone];decide)];simp only[htd];rw[if_neg hlt,hm1];rfl,rfl,rfl⟩,c7 (S:={S with done:=true}) hrsv4 htsv4 hh⟩)
theorem om:∀ (f:Nat) (S S':bE) (s s':Dev),ev S→U64 s→so f S s= .ok S' s'→ev S'∧U64 s'∧S'.b=S.b∧S'.bd=S.bd∧S'.c=S.c∧S'.to_=S.to_
 | 0,S,S',s,s',h,hu,e=>by cases e;exact⟨h,hu,rfl,rfl,rfl,rfl⟩
 | f+1,S,S',s,s',h,hu,e=>by
   rw[hZ] at e
   obtain⟨r,s1,e1,e⟩:=aM e
   obtain⟨h1,u1,g1,g2,g3,g4,_⟩:=lI h hu e1
   split at e
   ·cases e;exact⟨h1,u1,g1,g2,g3,g4⟩
   ·obtain⟨k1,k2,k3,k4,k5,k6⟩:=om f _ _ _ _ h1 u1 e
    exact⟨k1,k2,k3.trans g1,k4.trans g2,k5.trans g3,k6.trans g4⟩
theorem su{α β:Type}{f:α→β}{l:List α}{k:Nat}(hk:k<l.length):(l.take (k+1)).map f=(l.take k).map f++[f l[k]]:=by
 rw[List.take_succ_eq_append_getElem hk,List.map_append];rfl
theorem nt{bd:Nat}{c:Cfg}{b:Blk}{ws:List Int}(hc:bC c)(hb:fg c b)(hl:b.rts.length≤16)(hr:∀ v∈b.rts,0≤v∧v<18446744073709551616)(hw:∀ v∈ws,0≤v∧v<18446744073709551616):ev (dR bd c b ws):=by
 have h1:=hb.act
 have h2:=gE hc (k:=1 - b.act) (by omega)
 have h3:=hc.s1
 have h4:0≤c.frm (1 - b.act)∧c.frm (1 - b.act)≤20000:=by omega
 exact⟨hc,hb,hl,h4,⟨Int.le_refl _,by unfold dR;simp only;omega⟩,⟨Int.le_refl _,by simp[dR]⟩,List.nodup_nil,fun _ h=>(by cases h),fun _ h=>(by cases h),hw,hr⟩
theorem yX(B:World)(Fr:List HP)(x:Nat)(S:bE)(hS:ev S)(s:Dev)(hu:U64 s):
 ∀ w,Holds B (fw x S::aG S.bd s::Fr) w→Calls Tryz.prog 80 [ptr x].toArray w (Ret B (fun rv H'=>∃ r s',S.run s= .ok r s'∧rv= .tuple #[]∧H'=fw x r::aG S.bd s'::Fr) (fun c H'=>∃ s',S.run s= .off s'∧c=dN∧H'=aG S.bd s'::Fr)):=by
 refine au func80 aa ntmps80 aa (aO (cR (ι:=Nat×bE×Dev) [0] (fun (n,SI,sI)=>(SI.meas<n)∧(ev SI)∧(U64 sI)∧(SI.bd=S.bd)∧(so (S.meas+1) S s=so n SI sI)) (fun (n,SI,sI)=>[]) (fun (n,SI,sI)=>fw x SI::aG SI.bd sI::Fr) (fun (n,SI,sI)=>n) (S.meas+1,S,s) (⟨Nat.lt_succ_self _,hS,hu,rfl,rfl⟩) (fun a w st=>st.to trivial (fun hh=>hh)) ?_))
 rintro⟨n,SI,sI⟩ ⟨hn,hSI,huI,hbdI,hinv⟩
 try simp only at hn hSI huI hbdI hinv ⊢
 refine cg (σ':=[(0,_)]) ⟨rfl,trivial⟩ (ac (ac (ab (kPm aa aa ?_))))
 refine aY aa (aA call99 aa) (l3 B _ x SI hSI sI huI) .free aa aa ?_ ?_
 rotate_left
 ·rintro _ _ ⟨s9,hm9,rfl,rfl⟩
  exact bz fun w hh=>⟨_,⟨s9,by unfold bE.run;rw[hinv,show n=n - 1+1 by omega,hZ,hm9];rfl,rfl,rfl⟩,by rw[←hbdI];exact hh⟩
 rintro _ _ ⟨r1,s1,hm1,rfl,rfl⟩
 obtain⟨hS1,hu1,hb1,hbd1,hc1,hto1,hr1,hms1⟩:=lI hSI huI hm1
 refine kPv (bF aa) aa (ad ?_)
 refine aW aa (fun h4=> ?_) (fun h4=> ?_)
 ·have hg:r1.1=false:=by simpa using h4
  refine ay (aO (ay ?_))
  exact fun a w st_=>⟨(n - 1,r1.2,s1),⟨by have:=hms1 hg;first | omega | (simp only;omega),hS1,hu1,hbd1.trans hbdI,by rw[hinv,show n=n - 1+1 by omega,hZ,hm1];simp only[aX];rw[if_neg (by rw[hg];decide)];rfl⟩,by first | omega | (simp only;omega),st_.to ⟨rfl,trivial⟩ (fun hh=>(by simp only[hbd1];exact hh))⟩
 ·have hg:r1.1=true:=by simpa using h4
  refine bT ?_
  exact cS results80 (fun w hh=>⟨_,⟨_,_,by unfold bE.run;rw[hinv,show n=n - 1+1 by omega,hZ,hm1];simp only[aX];rw[if_pos hg],rfl,rfl⟩,by rw[←hbdI];exact hh⟩)
theorem oR(B:World)(Fr:List HP)(x:Nat)(S:bE)(hS:ev S):
 ∀ w,Holds B (fw x S::Fr) w→Calls Tryz.prog 176 [ptr x].toArray w (Ret B (fun rv H'=>∃ sv,aV sv=true∧rv=mW S.block sv∧H'=dy 0 (sv,S.block.rts)::fw x S::Fr) (fun _ _=>False)):=by
 refine au func176 aa ntmps176 aa ?_
 have hfb:=hS.fb
 have hfr:=hS.free
 have hto:=hS.to_
 have hba:=hS.b.act
 have hrl:=hS.rl
 refine ac (ab (aC aa (aN zeroValue95 aa) .free aa aa ?_))
 rintro _ _ ⟨b2,rfl,rfl⟩
 refine ad (ac (aJ [1] (kZ fun rsv tsv mw hrsv htsv=> ?_)))
 refine lb (.fin [0,1,2,3,4,5,6,7,8,9,10,11,12,13,14,15,16,17]) [16,17] [0,1,2,3,4,5,6,7,8,9,10,11,12,13,14,15] [16] [row x (fU S rsv tsv mw) 191] [2,0] (G:=Nat) (fun b3=>[(3,ptr b3)]) (fun b3=>row b3 [i64 (1 - S.b.act),i64 (S.free - S.to_),.slice none 0 0] 95::row x (fU S rsv tsv mw) 191::dy 0 (rsv,S.b.rts)::dy 0 (tsv,S.todo)::bJ .u64 i64 mw S.went::row b2 [i64 0,i64 0,.slice none 0 0] 95::Fr) Tryz.mixed (by kernel_rfl) ?_ ?_
 ·skip
  refine jE (al aa aa aa (ap aa) .free aa (al aa aa aa (ak aa) .free aa (al aa aa aa (aj (m:=_) nS aa aa) .free aa (al aa aa aa (aj (m:=_) lj aa aa) .free aa (al aa aa aa (ae isAgg3 aa aa) .free aa (al aa aa aa (cU aa aa) .free aa (al aa aa aa (ap aa) .free aa (al aa aa aa (ak aa) .free aa (al aa aa aa (aj (m:=_) ju aa aa) .free aa (al aa aa aa (ae isAgg3 aa aa) .free aa (al aa aa aa (ap aa) .free aa ?_)))))))))))
  refine al aa aa aa (ak aa) .free aa (al aa aa aa (aj (m:=_) rF aa aa) .free aa (al aa aa aa (ae isAgg3 aa aa) .free aa (al aa aa aa (cU aa aa) .free aa (al aa aa aa (aZ aa (rT _ _ aa aa)) .free aa (aU aa aa (aC aa (aN zeroValue95 aa) .free aa aa ?_))))))
  rintro _ _ ⟨b3,rfl,rfl⟩
  refine ad (cN (aU aa aa ?_))
  refine aD aa (aI (vs:=_) sizeOf95 aa aa aa (by first | rfl | exact gK (by assumption)) rfl) .free rfl ?_
  rintro _ _ rfl
  refine ad (c9 aa (cJ ?_))
  exact fun a w st_=>⟨b3,st_.to (aF aa) (fun hh=>hh)⟩
 intro b3
 refine cg (σ':=[(3,ptr b3),(2,_),(0,_)]) (aF aa) (ac (ac (aJ [2] (cP fun qr cr hqr hqi=> ?_))))
 subst hqr
 refine aJ [1,1,0,0,0,0] (aK (fun w hh=>kG (T:=26) (enc:=w64) hh) (ab (kPm aa aa (kPv (ak aa) aa (kPv (aj (m:=_) nS aa aa) aa (kPv (aj (m:=_) gM aa aa) aa (kPv (ae isAgg25 aa aa) aa (kPv (bY aa runUnderlying25 ⟨_,rfl⟩ rfl) aa (kPm aa aa (ad (aO ?_)))))))))))
 refine cR (ι:=Nat×Value) [27,26,3,2,0] (fun (k,bv)=>(k≤S.b.rts.length)∧(aV bv=true)) (fun (k,bv)=>[(28,i64 k)]) (fun (k,bv)=>dy 0 (bv,(S.b.rts.take k).map (fun w=>(bi S.went w).getD 0))::row b3 [i64 (1 - S.b.act),i64 (S.free - S.to_),bv] 95::row x (fU S (.slice qr S.b.rts.length cr) tsv mw) 191::dy 0 (.slice qr S.b.rts.length cr,S.b.rts)::dy 0 (tsv,S.todo)::bJ .u64 i64 mw S.went::row b2 [i64 0,i64 0,.slice none 0 0] 95::Fr) (fun (k,bv)=>S.b.rts.length - k) (0,.slice none 0 0) (⟨Nat.zero_le _,rfl⟩) (fun a w st=>st.to ⟨rfl,trivial⟩ (fun hh=>hh)) ?_
 rintro⟨k,bv⟩ ⟨hk0,hbv⟩
 try simp only at hk0 hbv ⊢
 refine cg (σ':=[(28,i64 k),(27,_),(26,_),(3,_),(2,_),(0,_)]) (aF aa) (ac (ab (kPv (an aa aa aa) aa (ad (ac ?_)))))
 refine aW aa (fun h29=> ?_) (fun h29=> ?_)
 ·have hk:k<S.b.rts.length:=by simp at h29;omega
  obtain⟨bq,oq,rfl⟩:=hqi k hk
  have hvb:=hS.vb S.b.rts[k]
  refine ay (ac (aO (ac (ab (kPv (bZ runUnderlying25 sizeOf26 aa aa (by omega) (by omega)) aa ?_)))))
  refine kPv (bX (v:=w64 S.b.rts[k]) isAgg26 (de 3 aa) aa (by rw[Int.toNat_natCast,List.getElem?_map,List.getElem?_eq_getElem hk];rfl)) aa ?_
  refine kPa aa aa (ad (cM [0,1,2,3,4,5,6,7,8,9,10,11,12] [9,10,12] [0,1] [9] [row b3 [i64 (1 - S.b.act),i64 (S.free - S.to_),bv] 95,row x (fU S (.slice (some ⟨bq,oq,none⟩) S.b.rts.length cr) tsv mw) 191,bJ .u64 i64 mw S.went] Tryz.mixed (by kernel_rfl) ?_))
  refine al aa aa aa (aj (m:=_) gM aa aa) .free aa (al aa aa aa (ae isAgg25 aa aa) .free aa (aT aa aa aa (ap aa) .free aa (aT aa aa aa (ak aa) .free aa (aT aa aa aa (aj (m:=_) nQ aa aa) .free aa (aT aa aa aa (ae isAgg189 aa aa) .free aa (aT aa aa aa (ap aa) .free aa (aT aa aa aa ((mT runUnderlying189 runUnderlying26 zeroValue3 aa aa).eq (ow _)) .free aa (aT aa aa aa (dh runUnderlying3 runUnderlying26 aa (fW (by omega))) .free aa (aU aa aa (aC aa (iQ runUnderlying25 sizeOf26 zeroValue26 aa aa aa) .free aa aa ?_))))))))))
  rintro _ _ ⟨b41,rfl,rfl⟩
  refine aJ [1,0] (ad (cN (aU aa aa (aC aa (iw aa aa runUnderlying25 runUnderlying25 ⟨_,rfl⟩ sizeOf26 zeroValue26 aa (fun _=>rfl) iy aa aa (by simp;omega)) .free aa aa ?_))))
  rintro bv2 _ ⟨hbv2,rfl⟩
  refine ad (c9 aa (aT aa aa aa (aj (m:=_) gM aa aa) .free aa (aU aa aa ?_)))
  refine aD aa (aR sizeOf25 aa aa (by first | rfl | assumption) rfl) .free rfl ?_
  rintro _ _ rfl
  refine ad (c9 aa (cJ (ao [28,27,26,3,2,0] rfl (ab (kPv (aS aa aa) aa (kPm aa aa (ad ?_)))))))
  exact fun a w st_=>⟨(k+1,bv2),⟨by first | omega | (simp only;omega),hbv2⟩,by first | omega | (simp only;omega),st_.to (aF aa) (fun hh=>(by simp only[su hk];exact hh))⟩
 ·have hk:¬ k<S.b.rts.length:=by simp at h29;omega
  obtain rfl:k=S.b.rts.length:=by omega
  rw[List.take_length]
  refine bT (ac (ab (kPv (am isAgg95 sizeOf95 aa aa) aa ?_)))
  refine aD aa (aI (vs:=_) sizeOf95 aa aa aa (by first | rfl | exact gK (by assumption)) rfl) .free rfl ?_
  rintro _ _ rfl
  refine ad (ao [2] rfl (az ?_))
  exact sQ results176 (.cellA aa isAgg95 sizeOf95 aa aa) (fun w hh=>⟨_,⟨bv,hbv,rfl,rfl⟩,(c7 (S:=S) hrsv htsv ((hh.dp [1,5]).pk [1,1,1,1])).pk [1]⟩)
theorem wk(B:World)(Fr:List HP)(cap:Nat):
 ∀ w,Holds B Fr w→Calls Tryz.prog 104 [.slice none 0 cap].toArray w (bB B Fr (.slice none 0 0)):=by
 refine au func104 aa ntmps104 aa (ac (ab (kPa aa aa (ad (ac (ac (ab (kPm aa aa (kPv (yS runUnderlying25 aa aa aa) aa (ad (pt aa (rfl) ?_)))))))))))
 refine ac (ab (kPa aa aa (ad (az ?_))))
 exact ax results104 aa (fun w hh=>⟨rfl,hh⟩)
theorem px(B:World)(Fr:List HP)(q:Option Addr)(cap:Nat)(xs:List Int)(hn:xs.length≤1000000)(hq:q=none→xs=[])(hr:SlR B Fr (.slice q xs.length cap) (xs.map w64)):∀ w,Holds B Fr w→Calls Tryz.prog 104 [.slice q xs.length cap].toArray w (Ret B (fun rv H'=>aV rv=true∧H'=dy 0 (rv,xs)::Fr) (fun _ _=>False)):=by
 intro w hw
 cases q with
 | none=>
   have:=hq rfl
   subst this
   exact(wk B Fr cap w hw).mono fun e w' h=>by obtain⟨rfl,h⟩:=h;exact⟨_,⟨rfl,rfl⟩,kG h⟩
 | some a=>
   refine(mV B Fr (some a) xs.length cap (xs.map w64) (by simp) (by simpa using hn) (by rw[List.all_eq_true];intro v hv;obtain⟨x,_,rfl⟩:=List.mem_map.1 hv;rfl) hr w hw).mono fun e w' h=> ?_
   cases e with
   | returned v=>
     obtain⟨H',⟨bn,rest,rfl,rfl⟩,h⟩:=h
     exact⟨_,⟨rfl,rfl⟩,iq aa aa h⟩
   | panicked c=>obtain⟨_,h,_⟩:=h;exact h.elim
   | outgrown=>exact h.elim
theorem pT(B:World)(Fr:List HP)(bd:Nat)(c:Cfg)(hc:bC c)(b:Blk)(hb:fg c b)(sv:Value)(hsv:aV sv=true)(q:Option Addr)(cap:Nat)(ws:List Int)(hwn:ws.length≤1000000)(hwq:q=none→ws=[])(hwl:SlR B (dy 0 (sv,b.rts)::Fr) (.slice q ws.length cap) (ws.map w64)):
 ∀ w,Holds B (dy 0 (sv,b.rts)::Fr) w→Calls Tryz.prog 78 [ptr bd,eO c,mW b sv,.slice q ws.length cap].toArray w (Ret B (fun rv H'=>∃ x,rv=ptr x∧H'=fw x (dR bd c b ws)::Fr) (fun _ _=>False)):=by
 refine au func78 aa ntmps78 aa ?_
 have hba:=hb.act
 refine ac (ab (aC aa (bx aa) .free aa aa ?_))
 rintro _ _ ⟨b5,rfl,rfl⟩
 refine aC aa (bx aa) .free aa aa ?_
 rintro _ _ ⟨b6,rfl,rfl⟩
 refine kPa aa aa (ad (ac (ab (kPv (am isAgg40 sizeOf40 aa aa) aa ?_))))
 refine kPv (aj (m:=_) lj aa aa) aa (kPv (ae isAgg3 aa aa) aa (kPv (cU aa aa) aa (aE aa (aA call140 aa) (lh _ _ c hc _ (by have:=hb.act;omega) (by have:=hb.act;omega)) .free aa aa ?_)))
 refine kPa aa aa (ad (ao [9,8,6,5,0,3] rfl (ac (aJ [1] ?_))))
 refine lb (.br [0,1,2,3,4,5,6] 7 (.fin [8,9,10,11]) 8 (.fin [7,9,10,11])) [7,8,10] [0,1,2,3,4,5,6] [7,8] [row b5 [i64 c.log,i64 c.roots,i64 c.space] 40,row b6 [i64 b.act,i64 b.used,sv] 95] [] (G:=Nat) (fun x=>[(8,ptr x)]) (fun x=>fw x (dR bd c b ws)::Fr) Tryz.mixed (by kernel_rfl) ?_ ?_
 ·skip
  refine wF (al aa aa aa (ap aa) .free aa (al aa aa aa (am isAgg40 sizeOf40 aa aa) .free aa ?_))
  refine al aa aa aa (am isAgg95 sizeOf95 aa aa) .free aa ?_
  refine al aa aa aa (ap aa) .free aa (al aa aa aa (ap aa) .free aa (al aa aa aa (ap aa) .free aa (al aa aa aa (ap aa) .free aa (cJ ?_))))
  refine qg aa aa ?_ ?_
  ·skip
   refine aQ aa (aA call104 aa) (px _ _ q cap ws hwn hwq hwl.up) .free aa aa ?_
   rintro tsv _ ⟨htsv,rfl⟩
   refine ad (tP (jE (aU aa aa (aC aa (eM .u64 i64) .free aa aa ?_))))
   rintro _ _ ⟨mw,rfl,rfl⟩
   refine ad (cN ?_)
   refine aT aa aa aa (aZ aa (gH _ _ _ _ _ _ _ _ _ _ _ _ (by first | rfl | assumption) rfl rfl rfl (by first | rfl | assumption) (by first | rfl | assumption))) .free rfl ?_;refine aU aa aa ?_;refine aC aa (bx aa) .free aa aa ?_
   rintro _ _ ⟨b25,rfl,rfl⟩
   refine ad (c9 aa (aT aa aa aa (bK aa) .free aa (cJ ?_)))
   exact fun a w st_=>⟨b25,st_.to ⟨rfl,trivial⟩ (fun hh=>(c7 (S:=dR bd c b ws) hsv htsv ((hh.dp [3,3]).pk [0,2,1])))⟩
  ·skip
   refine aC aa (eM .u64 i64) .free aa aa ?_
   rintro _ _ ⟨mw,rfl,rfl⟩
   refine ad (tP (jE (aU aa aa (aQ aa (aA call104 aa) (px _ _ q cap ws hwn hwq hwl.up) .free aa aa ?_))))
   rintro tsv _ ⟨htsv,rfl⟩
   refine ad (cN ?_)
   refine aT aa aa aa (aZ aa (gH _ _ _ _ _ _ _ _ _ _ _ _ (by first | rfl | assumption) rfl rfl rfl (by first | rfl | assumption) (by first | rfl | assumption))) .free rfl ?_;refine aU aa aa ?_;refine aC aa (bx aa) .free aa aa ?_
   rintro _ _ ⟨b25,rfl,rfl⟩
   refine ad (c9 aa (aT aa aa aa (bK aa) .free aa (cJ ?_)))
   exact fun a w st_=>⟨b25,st_.to ⟨rfl,trivial⟩ (fun hh=>(c7 (S:=dR bd c b ws) hsv htsv ((hh.dp [3,3]).pk [0,2])))⟩
 intro x
 refine cg (σ':=[(8,ptr x)]) ⟨rfl,trivial⟩ (az ?_)
 exact ax results78 aa (fun w hh=>⟨_,⟨_,rfl,rfl⟩,hh⟩)
abbrev ey(i v:Int)(s:Dev)(S:bG):Out (Int×bG):=S.store s i v
def bG.fresh(S:bG)(f t:Int):bG:={S with ff:=f,ft:=t,seen:=[],dirty:=[]}
def fZ(c:Cfg)(b:Blk)(S:bG)(s:Dev):Out (Int×bG):=
 (kF ey c b s (S.fresh 0 0)).then fun x s1=>if x.1≠0 then (x.2.abort s1).then fun S2 s2=> .ok (x.1,S2) s2
  else (x.2.commit s1).then fun S2 s2=> .ok (0,S2) s2
def fF(bd:Nat)(c:Cfg)(S:bG)(s:Dev)(ws:List Int):Out (Option bE×Int×bG):=
 if (s.block c).2≠0 then .ok (none,(s.block c).2,S) s
 else ((dR bd c (s.block c).1 ((s.block c).1.rts++ws)).run s).then fun X s1=>(fZ c X.block S s1).then fun x s2=>
  if x.1≠0 then .ok (none,x.1,x.2) s2 else .ok (some X,0,x.2) s2
theorem oT{s:Dev}{c:Cfg}(hc:bC c)(h:(s.block c).2=0):0<(s.block c).1.rts.length:=by
 have:=hc.r1
 unfold Dev.block at h ⊢
 split at h
 ·cases h
 ·rename_i h1;rw[if_neg h1];simp only[bu];omega
theorem qX{α:Type}(l:List (Int×α))(k:Int)(a:α):(mset l k a).length≤l.length+1:=by
 induction l with
 | nil=>simp[mset]
 | cons p t ih=>unfold mset;split<;>simp<;>omega
theorem tT{S S':bG}{s s':Dev}{i v a:Int}(e:S.store s i v= .ok (a,S') s'):S'.dirty.length≤S.dirty.length+1:=by
 have h1:=qX S.dirty (i / 8) ()
 unfold bG.store at e
 split at e
 ·cases e;omega
 ·split at e
  ·obtain⟨x,t,e1,e⟩:=aM e
   split at e
   ·cases e;simp only;omega
   ·obtain⟨y,u,e2,e⟩:=aM e
    cases e;exact h1
  ·obtain⟨y,u,e2,e⟩:=aM e
   cases e;exact h1
theorem kE:∀ (l:List Int) (i:Int) (S S':bG) (s s':Dev) (a:Int),fS ey l i s S= .ok (a,S') s'→S'.dirty.length≤S.dirty.length+l.length
 | [],i,S,S',s,s',a,e=>by cases e;simp
 | v::vs,i,S,S',s,s',a,e=>by
   unfold fS at e
   split at e
   ·have:=kE vs _ _ _ _ _ _ e;simp only[List.length_cons];omega
   ·obtain⟨⟨x,S1⟩,s1,e1,e⟩:=aM e
    have h1:=tT e1
    split at e
    ·cases e;simp only[List.length_cons];omega
    ·have:=kE vs _ _ _ _ _ _ e;simp only[List.length_cons] at this ⊢;omega
structure Cg(S:bG)(bd:Nat)(c:Cfg)(s:Dev):Prop where
 w:dZ S.L
 n:s.n≤1000000
 d:S.L.d=bd
 c:S.L.c=c
theorem yM(B:World)(Fr:List HP)(bs x bd:Nat)(S:bG)(X:bE)(hX:ev X)(hrl0:0<X.b.rts.length)(c:Cfg)(s:Dev)(hu:U64 s)(hK:Cg S bd c s):
 ∀ w,Holds B (eD bs S::fw x X::aG bd s::Fr) w→Calls Tryz.prog 141 [ptr bd,eO c,ptr bs,ptr x].toArray w (Ret B (fun rv H'=>∃ a S' s',fZ c X.block S s= .ok (a,S') s'∧rv=i64 a∧H'=eD bs S'::fw x X::aG bd s'::Fr) (fun ch H'=>∃ s',fZ c X.block S s= .off s'∧ch=dN∧H'=aG bd s'::Fr)):=by
 refine au func141 aa ntmps141 aa ?_
 have hrl:=hX.rl
 have hbb:=hX.b.act
 have hbf:=hX.free
 have hbw:∀ v∈X.block.rts,0≤v∧v<18446744073709551616:=fun v hv=>by
  obtain⟨u,_,rfl⟩:=List.mem_map.1 hv
  have:=hX.vb u
  omega
 have hfb:=hX.fb
 have hto:=hX.to_
 refine ac (ab (aC aa (bx aa) .free aa aa ?_))
 rintro _ _ ⟨b5,rfl,rfl⟩
 refine kPa aa aa (ad (ac (ac (ab (kPm aa aa (kPv (aZ aa (B4)) aa (aJ [1] (cL aa (aA call53 aa) (kM B _ bs S 0 0) .free aa aa ?_))))))))
 refine kPa aa aa (ad (ac (ab (kPm aa aa (kPv (an aa aa aa) aa (ad (cf aa (rfl) (ay (ac (ac (cM [0,1,2,4,5,3,6,7] [3,6] [0,1,4,5] [3] [row b5 [i64 c.log,i64 c.roots,i64 c.space] 40] Tryz.mixed (by kernel_rfl) ?_)))))))))))
 refine al aa aa aa (ap aa) .free aa (al aa aa aa (am isAgg40 sizeOf40 aa aa) .free aa ?_)
 refine aT aa aa aa (ap aa) .free aa (al aa aa aa (ap aa) .free aa (al aa aa aa (dm aa aa) .free aa (aU aa aa (aJ [2] (aQ aa (aA call176 aa) (oR B _ x X hX) .free aa aa ?_)))))
 rintro _ _ ⟨bsv,hbsv,rfl,rfl⟩
 refine cP fun qb cb hqb hqi=> ?_
 subst hqb
 refine ad (cN (aU aa aa (aJ [4,2] ?_)))
 refine aY aa (aA call175 aa) (zk B _ _ _ bd bs bG (fun b S=>iK b S) _ _ (qm B bd bs c) c (hK.c▸hK.w.c) X.block (by simp only[bE.block];omega) hbw (by simp only[bE.block,List.length_map];omega) (by simp only[bE.block,List.length_map];omega) (.slice qb X.block.rts.length cb) aa (de 0 aa) s (S.fresh 0 0) ⟨hu,hK.n,⟨hK.w,fun _ h=>(by cases h)⟩,hK.d,hK.c⟩) .free rfl rfl ?_ ?_
 rotate_left
 ·rintro _ _ ⟨s9,hm9,rfl,rfl⟩
  exact bz fun w hh=>⟨_,⟨s9,by unfold fZ kF;rw[show fS ey (X.block.act::X.block.used::X.block.rts) c.active s (S.fresh 0 0)= .off s9 from hm9];rfl,rfl,rfl⟩,hh.dp [1,1,1]⟩
 rintro _ _ ⟨a2,S2,s2,hm2,rfl,hok2,rfl⟩
 obtain⟨hu2,hn2,hw2,hd2,hc2⟩:=hok2
 obtain rfl:=hd2
 refine ad (c9 aa (aT aa aa aa (bK aa) .free aa (cJ (ao [10,8,2] rfl (ac (ab (kPm aa aa (kPv (an aa aa aa) aa (ad ?_)))))))))
 refine aW aa (fun h25=> ?_) (fun h25=> ?_)
 ·have he:a2≠0:=by simpa using h25
  refine ac (ab (kPm aa aa (aJ [1,0] ?_)))
  refine aY aa (aA call145 aa) (mJ B _ bs S2 s2 hw2) .free aa aa ?_ ?_
  rotate_left
  ·rintro _ _ ⟨s9,hm9,rfl,rfl⟩
   exact bz fun w hh=>⟨_,⟨s9,by unfold fZ;rw[hm2];simp only[aX];rw[if_pos he,hm9];rfl,rfl,rfl⟩,hh.dp [1,1,1]⟩
  rintro _ _ ⟨S3,s3,hm3,rfl,rfl⟩
  refine ad (ac (ab (kPm aa aa (kPa aa aa (ad (az ?_))))))
  exact ax results141 aa (fun w hh=>⟨_,⟨a2,S3,s3,by unfold fZ;rw[hm2];simp only[aX];rw[if_pos he,hm3];rfl,rfl,rfl⟩,((hh.dp [2,3]).pk [0,1])⟩)
 ·have he:¬ a2≠0:=by simpa using h25
  refine ay (ac (ab (kPm aa aa (aJ [1,0] ?_))))
  refine aY aa (aA call62 aa) (pc B _ bs S2 s2 hw2 (by have:=kE _ _ _ _ _ _ _ hm2;simp only[bG.fresh,bE.block,List.length_cons,List.length_map,List.length_nil] at this;omega)) .free aa aa ?_ ?_
  rotate_left
  ·rintro _ _ ⟨s9,hm9,rfl,rfl⟩
   exact bz fun w hh=>⟨_,⟨s9,by unfold fZ;rw[hm2];simp only[aX];rw[if_neg he,hm9];rfl,rfl,rfl⟩,hh.dp [1,1,1]⟩
  rintro _ _ ⟨S3,s3,hm3,rfl,rfl⟩
  refine kPa aa aa (ad (az ?_))
  exact ax results141 aa (fun w hh=>⟨_,⟨0,S3,s3,by unfold fZ;rw[hm2];simp only[aX];rw[if_neg he,hm3];rfl,rfl,rfl⟩,((hh.dp [2,3]).pk [0,1])⟩)
theorem dD{B:World}{σ:Env}{Fr:List HP}{P:Program}{T:TypeId}{enc:Int→Value}{sv:Value}{xs:List Int}{d:Option Tmp}{ty:TypeId}{p:String}{af:Array Edge}{g:Option (Nat×Bool)}{t:TypeId}{x y:Operand}{at_:Array TypeId}{u:TypeId}{ud:TypeDesc}{ys:List Int}{z yv:Value}
 (ha:at_[0]? =some t) (ha':at_[1]? =some u) (ht:∀ w,(underlying t).run P w= .ok (.slice T) w) (hu:∀ w,(underlying u).run P w= .ok ud w) (hud:∃ q,ud= .slice q) (hs:∀ w,(sizeOf T).run P w= .ok 1 w) (hz:∀ w,(zeroValue T).run P w= .ok z w) (hz1:aV z=true) (he1:∀ v,aV (enc v)=true) (hfb:eU P T)
 (hx:evO σ x=some sv) (hy:evO σ y=some yv) (hr:SlR B Fr yv (ys.map enc)) (hn:xs.length+ys.length≤1000000000):
 Chg P B σ (eP T enc 0 (sv,xs)::Fr) ⟨d,.call ⟨.builtin .append, #[x,y],at_⟩,ty,p,af,g⟩ (fun v' H'=>aV v'=true∧H'=eP T enc 0 (v',xs++ys)::Fr):=by
 by_cases h0:0<ys.length
 ·exact l4 ha ha' ht hu hud hs hz hz1 he1 hfb hx hy hr h0 hn
 obtain rfl:ys=[]:=List.length_eq_zero_iff.1 (by omega)
 intro a w kn hh
 obtain⟨q,rfl⟩:=hud
 obtain⟨sq,scap,e0,_⟩:=hr.ex
 subst e0
 have hf:(Builtin.firstCells 1 0 (.slice sq 0 scap)).run P w= .ok #[] w:=by
  have:=hr.first (P:=P) (w:=w) hh.tail 0 (Nat.zero_le _)
  simpa using this
 have hsl:∃ q n c,sv= .slice q n c∧n≤c:=by
  rcases ij hh with ⟨_,h2,_⟩ | ⟨bd,pre,rest,k,_,h1,_⟩
  ·exact⟨_,_,_,h2,Nat.le_refl _⟩
  ·exact⟨_,_,_,h1,Nat.le_add_right _ _⟩
 obtain⟨q2,n2,c2,rfl,hc2⟩:=hsl
 refine⟨.value (.slice q2 n2 c2),w,?_,_,.inl aa,_,⟨rfl,rfl⟩,by simpa using hh⟩
 simp only[execOp,resolve,Sem.run_bind,Sem.run_pure,Result.andThen_ok]
 simp only[List.map_nil,List.length_nil] at hy
 cases q2<;>simp[invoke,builtin,Builtin.append_,ha,ha',hu,kn.eval hx,kn.eval hy,ht,hs,Builtin.lenOf,hc2,hf,storeCells]
theorem pG{s s':Dev}{i v a:Int}(e:s.store i v= .ok a s'):s'.n=s.n:=by
 unfold Dev.store at e
 split at e
 ·cases e;rfl
 split at e
 ·cases e
 ·cases e;rfl
theorem pN{s s':Dev}{i a:Int}(e:s.flush i= .ok a s'):s'.n=s.n:=by
 unfold Dev.flush at e
 split at e
 ·cases e;rfl
 split at e
 ·cases e
 ·cases e;rfl
theorem pP{s s':Dev}{a:Unit}(e:s.fence= .ok a s'):s'.n=s.n:=by
 unfold Dev.fence at e
 split at e
 ·cases e
 ·cases e;rfl
theorem B0:∀ (k:Nat) (i a f:Int) (s s':Dev),pB k i a f s= .ok () s'→s'.n=s.n
 | 0,_,_,_,s,s',e=>by cases e;rfl
 | k+1,i,a,f,s,s',e=>by
   rw[kx] at e
   obtain⟨_,s1,e1,e⟩:=aM e
   exact(B0 k _ _ _ _ _ e).trans (pG e1)
theorem wh{S:bE}{s s':Dev}{w:Int}{r:Int×bE}(e:S.copied s w= .ok r s'):s'.n=s.n:=by
 unfold bE.copied at e
 split at e
 ·cases e;rfl
 split at e
 ·cases e;rfl
 split at e
 ·cases e;rfl
 obtain⟨_,s1,e1,e⟩:=aM e
 cases e
 exact B0 _ _ _ _ _ _ e1
theorem tY:∀ (k:Nat) (i:Int) (S S':bE) (s s':Dev),jG k i S s= .ok S' s'→s'.n=s.n
 | 0,_,S,S',s,s',e=>by cases e;rfl
 | k+1,i,S,S',s,s',e=>by
   rw[gk] at e
   split at e
   ·exact tY k _ _ _ _ _ e
   ·obtain⟨r,s1,e1,e⟩:=aM e
    obtain⟨_,s2,e2,e⟩:=aM e
    exact((tY k _ _ _ _ _ e).trans (pG e2)).trans (wh e1)
theorem yx:∀ (f:Nat) (i e:Int) (s s':Dev) (a:Unit),keepN f i e s= .ok a s'→s'.n=s.n
 | 0,_,_,s,s',a,e=>by cases e;rfl
 | f+1,i,e',s,s',a,e=>by
   rw[fA] at e
   split at e
   ·obtain⟨_,s1,e1,e⟩:=aM e
    exact(yx f _ _ _ _ _ e).trans (pN e1)
   ·cases e;rfl
theorem tS{S:bE}{s s':Dev}{r:Bool×bE}(e:S.step s= .ok r s'):s'.n=s.n:=by
 unfold bE.step at e
 split at e
 ·cases e;rfl
 split at e
 ·obtain⟨_,s1,e1,e⟩:=aM e
  cases e;exact wh e1
 ·split at e
  ·obtain⟨_,s1,e1,e⟩:=aM e
   cases e;exact tY _ _ _ _ _ _ e1
  ·obtain⟨_,s1,e1,e⟩:=aM e
   cases e
   unfold bE.keep at e1
   obtain⟨_,s2,e2,e1⟩:=aM e1
   have h2:=yx _ _ _ _ _ _ e2
   split at e1
   ·exact(pP e1).trans h2
   ·cases e1;exact h2
theorem yd{S S':bE}{s s':Dev}(e:S.run s= .ok S' s'):s'.n=s.n:=by
 unfold bE.run at e
 revert e
 generalize S.meas+1=f
 intro e
 induction f generalizing S s with
 | zero=>cases e;rfl
 | succ f ih=>
   rw[hZ] at e
   obtain⟨r,s1,e1,e⟩:=aM e
   split at e
   ·cases e;exact tS e1
   ·exact(ih e).trans (tS e1)
theorem vV(B:World)(Fr:List HP)(bs bd:Nat)(S:bG)(c:Cfg)(hc:bC c)(s:Dev)(hu:U64 s)(hK:Cg S bd c s)(q:Option Addr)(cap:Nat)(ws:List Int)(hwn:ws.length≤900000)(hws:∀ v∈ws,0≤v∧v<18446744073709551616)(hwl:SlR B Fr (.slice q ws.length cap) (ws.map w64)):
 ∀ w,Holds B (eD bs S::aG bd s::Fr) w→Calls Tryz.prog 163 [ptr bd,eO c,ptr bs,.slice q ws.length cap].toArray w (Ret B (fun rv H'=>∃ r s',fF bd c S s ws= .ok r s'∧((r.1=none∧rv= .tuple #[.pointer none,i64 r.2.1]∧H'=eD bs r.2.2::aG bd s'::Fr)∨(∃ x X,r.1=some X∧r.2.1=0∧rv= .tuple #[ptr x,i64 0]∧H'=fw x X::eD bs r.2.2::aG bd s'::Fr))) (fun ch H'=>∃ s',fF bd c S s ws= .off s'∧ch=dN∧H'=aG bd s'::Fr)):=by
 refine au func163 aa ntmps163 aa (ac (ab (aC aa (bx aa) .free aa aa ?_)))
 rintro _ _ ⟨b5,rfl,rfl⟩
 refine kPa aa aa (kPa aa aa (ad (ac (ac (ab (kPm aa aa (aE aa (aA call51 aa) (bU (q:=eD) (fun Fr=>og B Fr bs S)) .free aa aa ?_)))))))
 refine ad (cf aa (rfl) (ay (ac (ab (kPm aa aa (kPv (am isAgg40 sizeOf40 aa aa) aa ?_))))))
 refine aJ [2] (aQ aa (aA call111 aa) (gL _ _ _ _ c hc hu) .free aa aa ?_)
 rintro _ _ ⟨sv,hsv,rfl,rfl⟩
 have hbk:=dM (s:=s) hc hu
 have hrl:=fQ (s:=s) hc
 refine kPm aa aa (kPv (aB aa aa) aa (kPv (aB aa aa) aa (aC aa (aN zeroValue95 aa) .free aa aa ?_)))
 rintro _ _ ⟨b10,rfl,rfl⟩
 refine aD aa (aI (vs:=_) sizeOf95 aa aa aa (by first | rfl | exact gK (by assumption)) rfl) .free rfl ?_
 rintro _ _ rfl
 refine kPa aa aa (ad (ao [11,10,9,8,5,0,2,3] rfl (ac (ac (ab (kPm aa aa (kPv (an aa aa aa) aa (ad ?_))))))))
 refine aW aa (fun h23=> ?_) (fun h23=> ?_)
 ·have he:(s.block c).2≠0:=by simpa using h23
  have hres:fF bd c S s ws= .ok (none,(s.block c).2,S) s:=by unfold fF;rw[if_pos he]
  refine ac (ab (kPm aa aa (kPa aa aa (kPa aa aa (ad (az ?_))))))
  exact bg results163 aa aa (fun w hh=>⟨_,⟨_,_,hres,.inl ⟨rfl,rfl,rfl⟩⟩,((hh.dp [0,0,1]).pk [1])⟩)
 ·have he:(s.block c).2=0:=by simpa using h23
  have hrl0:0<(s.block c).1.rts.length:=oT hc he
  refine aJ [1] (cP fun qo co hqo hqoi=> ?_)
  subst hqo
  refine aK (H':=dy 0 (.slice qo (s.block c).1.rts.length co,(s.block c).1.rts)::row b10 [i64 (s.block c).1.act,i64 (s.block c).1.used,.slice qo (s.block c).1.rts.length co] 95::aG bd s::row b5 [i64 c.log,i64 c.roots,i64 c.space] 40::eD bs S::Fr) (fun w hh=>by have h:=hh;exact h) (ay (ac (cM [0,1,2,4,5,7,3,6,8,9,10] [3,6,8,9] [0,1,2,4,5,7] [3,6,8] [row b5 [i64 c.log,i64 c.roots,i64 c.space] 40,row b10 [i64 (s.block c).1.act,i64 (s.block c).1.used,.slice qo (s.block c).1.rts.length co] 95] Tryz.mixed (by kernel_rfl) ?_)))
  refine al aa aa aa (ap aa) .free aa (al aa aa aa (am isAgg40 sizeOf40 aa aa) .free aa ?_)
  refine al aa aa aa (am isAgg95 sizeOf95 aa aa) .free aa ?_
  refine al aa aa aa (aj (m:=_) gM aa aa) .free aa (al aa aa aa (ae isAgg25 aa aa) .free aa (al aa aa aa (ap aa) .free aa (aU aa aa (aC aa (ut runUnderlying25 sizeOf26) .free aa aa ?_))))
  rintro _ _ ⟨b28,rfl,rfl⟩
  refine aK (H':=dy 0 (.slice (some ⟨b28,0,none⟩) 0 0,[])::_) (fun w hh=>iq (xs:=[]) aa aa hh) (ad (cN (aU aa aa (aC aa (dD (yv:= .slice qo (s.block c).1.rts.length co) (ys:=(s.block c).1.rts) aa aa runUnderlying25 runUnderlying25 ⟨_,rfl⟩ sizeOf26 zeroValue26 aa (fun _=>rfl) iy aa aa (de 0 aa) (by simp;omega)) .free aa aa ?_))))
  rintro nv2 _ ⟨hnv2,rfl⟩
  refine ad (cN (aU aa aa (aC aa (dD (yv:= .slice q ws.length cap) (ys:=ws) aa aa runUnderlying25 runUnderlying25 ⟨_,rfl⟩ sizeOf26 zeroValue26 aa (fun _=>rfl) iy aa aa hwl.up (by simp;omega)) .free aa aa ?_)))
  rintro nv3 _ ⟨hnv3,rfl⟩
  refine cP fun qn cn hqn0 hqni=> ?_
  subst hqn0
  have hqn:qn=none→(s.block c).1.rts++ws=[]:=fun e=>by
   cases hl:(s.block c).1.rts++ws with
   | nil=>rfl
   | cons a t=>
     obtain⟨b,o,h⟩:=hqni 0 (by show 0<((s.block c).1.rts++ws).length;rw[hl];exact Nat.succ_pos _)
     rw[e] at h;cases h
  refine ad (cN (aU aa aa (aJ [1] (aQ aa (aA call78 aa) (pT B _ bd c hc (s.block c).1 hbk (.slice qo (s.block c).1.rts.length co) aa qn cn ((s.block c).1.rts++ws) (by rw[List.length_append];omega) hqn (de 1 aa)) .free aa aa ?_))))
  rintro _ _ ⟨x,rfl,rfl⟩
  have hX0:ev (dR bd c (s.block c).1 ((s.block c).1.rts++ws)):=nt hc hbk hrl (gG hu) (fun v hv=>by
   rcases List.mem_append.1 hv with hv | hv
   ·exact gG hu v hv
   ·exact hws v hv)
  refine ad (c9 aa (aT aa aa aa (bK aa) .free aa (cJ (ao [12,9,8,5,0,2] rfl (ac (ab (kPm aa aa (aJ [0,2] ?_))))))))
  refine aY aa (aA call80 aa) (yX B _ x (dR bd c (s.block c).1 ((s.block c).1.rts++ws)) hX0 s hu) .free aa aa ?_ ?_
  rotate_left
  ·rintro _ _ ⟨s9,hm9,rfl,rfl⟩
   exact bz fun w hh=>⟨_,⟨s9,by unfold fF;rw[if_neg (by omega)];rw[hm9];rfl,rfl,rfl⟩,hh.dp [1,1,1,1]⟩
  rintro _ _ ⟨X,s1,hm1,rfl,rfl⟩
  obtain⟨hX,hu1,hXb,hXbd,hXc,hXto⟩:=om _ _ _ _ _ hX0 hu hm1
  have hn1:=yd hm1
  refine ad (ac (ac (ab (kPm aa aa (kPv (am isAgg40 sizeOf40 aa aa) aa ?_)))))
  refine kPm aa aa (kPm aa aa (aJ [5,0,0] ?_))
  refine aY aa (aA call141 aa) (yM B _ bs x bd S X hX (by rw[hXb];exact hrl0) c s1 hu1 ⟨hK.w,by rw[hn1];exact hK.n,hK.d,hK.c⟩) .free aa aa ?_ ?_
  rotate_left
  ·rintro _ _ ⟨s9,hm9,rfl,rfl⟩
   exact bz fun w hh=>⟨_,⟨s9,by unfold fF;rw[if_neg (by omega)];rw[hm1];simp only[aX];rw[hm9];rfl,rfl,rfl⟩,hh.dp [1,1,1]⟩
  rintro _ _ ⟨a2,S2,s2,hm2,rfl,rfl⟩
  refine kPa aa aa (ad (ao [13,12,9,8] rfl (ac (ab (kPm aa aa (kPv (an aa aa aa) aa (ad ?_)))))))
  refine aW aa (fun h43=> ?_) (fun h43=> ?_)
  ·have ha2:a2≠0:=by simpa using h43
   refine ac (ab (kPm aa aa (kPa aa aa (kPa aa aa (ad (az ?_))))))
   exact bg results163 aa aa (fun w hh=>⟨_,⟨(none,a2,S2),s2,by unfold fF;rw[if_neg (by omega),hm1];simp only[aX];rw[hm2];simp only[aX];rw[if_pos ha2],.inl ⟨rfl,rfl,rfl⟩⟩,(hh.dp [1,2,2,2])⟩)
  ·have ha2:¬ a2≠0:=by simpa using h43
   refine ay (ac (ab (kPm aa aa (kPa aa aa (kPa aa aa (ad (az ?_)))))))
   exact bg results163 aa aa (fun w hh=>⟨_,⟨(some X,0,S2),s2,by unfold fF;rw[if_neg (by omega),hm1];simp only[aX];rw[hm2];simp only[aX];rw[if_neg ha2],.inr ⟨x,X,rfl,rfl,rfl,rfl⟩⟩,((hh.dp [3,3,3]).pk [1])⟩)
theorem qe{L L':ce}{s s':Dev}(hL:dZ L)(e:L.truncate s= .ok L' s'):(U64 s→U64 s')∧s'.n=s.n∧dZ L'∧L'.d=L.d∧L'.c=L.c∧L'.n=0:=by
 unfold ce.truncate at e
 split at e
 ·rename_i h;cases e;exact⟨id,rfl,hL,rfl,rfl,h⟩
 obtain⟨_,s1,e1,e⟩:=aM e
 obtain⟨_,s2,e2,e⟩:=aM e
 obtain⟨_,s3,e3,e⟩:=aM e
 cases e
 have h1:=hL.c.l1;have h2:=hL.c.r1
 refine⟨fun hu=> ?_,((pP e3).trans (pN e2)).trans (pG e1),⟨hL.c,by simp only;omega,by simp only;omega,Int.le_refl 0,by simp only;omega⟩,rfl,rfl,rfl⟩
 exact(fN (eC (cQ hu (by omega) e1).1 e2).1 e3).1
theorem AJ{c:Cfg}:∀ (k:Nat) (s s':Dev),jV undoS c k s= .ok () s'→(U64 s→U64 s')∧s'.n=s.n
 | 0,s,s',e=>by cases e;exact⟨id,rfl⟩
 | k+1,s,s',e=>by
   unfold jV at e
   obtain⟨_,s1,e1,e⟩:=aM e
   unfold undoS at e1
   obtain⟨_,s2,e2,e1⟩:=aM e1
   obtain⟨_,s3,e3,e1⟩:=aM e1
   cases e1
   obtain⟨g1,g2⟩:=AJ k s1 s' e
   exact⟨fun hu=>g1 (eC (cQ hu (hu.load _) e2).1 e3).1,g2.trans ((pN e3).trans (pG e2))⟩
theorem As{L L':ce}{s s':Dev}(hL:dZ L)(e:L.undo s= .ok L' s'):(U64 s→U64 s')∧s'.n=s.n∧dZ L'∧L'.d=L.d∧L'.c=L.c∧L'.n=0:=by
 unfold ce.undo at e
 obtain⟨_,s1,e1,e⟩:=aM e
 obtain⟨_,s2,e2,e⟩:=aM e
 obtain⟨g1,g2⟩:=AJ _ _ _ e1
 obtain⟨h1,h2,h3,h4,h5,h6⟩:=qe hL e
 have k:(U64 s1→U64 s2)∧s2.n=s1.n:=by
  split at e2
  ·exact⟨fun hu=>(fN hu e2).1,pP e2⟩
  ·cases e2;exact⟨id,rfl⟩
 exact⟨fun hu=>h1 (k.1 (g1 hu)),(h2.trans k.2).trans g2,h3,h4,h5,h6⟩
theorem rD:∀ (l:List Int) (s s':Dev),dG l s= .ok () s'→(U64 s→U64 s')∧s'.n=s.n
 | [],s,s',e=>by cases e;exact⟨id,rfl⟩
 | k::ks,s,s',e=>by
   unfold dG at e
   obtain⟨_,s1,e1,e⟩:=aM e
   obtain⟨g1,g2⟩:=rD ks s1 s' e
   exact⟨fun hu=>g1 (eC hu e1).1,g2.trans (pN e1)⟩
theorem wi{S S':bG}{s s':Dev}(hL:dZ S.L)(e:S.commit s= .ok S' s'):(U64 s→U64 s')∧s'.n=s.n∧dZ S'.L∧S'.L.d=S.L.d∧S'.L.c=S.L.c∧S'.L.n=0:=by
 unfold bG.commit at e
 obtain⟨_,s1,e1,e⟩:=aM e
 obtain⟨_,s2,e2,e⟩:=aM e
 obtain⟨_,s3,e3,e⟩:=aM e
 cases e
 obtain⟨g1,g2⟩:=rD _ _ _ e1
 obtain⟨h1,h2,h3,h4,h5,h6⟩:=qe hL e3
 have k:(U64 s1→U64 s2)∧s2.n=s1.n:=by
  split at e2
  ·exact⟨fun hu=>(fN hu e2).1,pP e2⟩
  ·cases e2;exact⟨id,rfl⟩
 exact⟨fun hu=>h1 (k.1 (g1 hu)),(h2.trans k.2).trans g2,h3,h4,h5,h6⟩
theorem uJ{S S':bG}{s s':Dev}(hL:dZ S.L)(e:S.abort s= .ok S' s'):(U64 s→U64 s')∧s'.n=s.n∧dZ S'.L∧S'.L.d=S.L.d∧S'.L.c=S.L.c∧S'.L.n=0:=by
 unfold bG.abort at e
 obtain⟨_,s1,e1,e⟩:=aM e
 cases e
 exact As hL e1
theorem p6:∀ (l:List Int) (i:Int) (S S':bG) (s s':Dev) (a:Int),(∀ v∈l,0≤v∧v<18446744073709551616)→mZ S→U64 s→s.n≤1000000→fS ey l i s S= .ok (a,S') s'→U64 s'∧s'.n=s.n∧dZ S'.L∧S'.L.d=S.L.d∧S'.L.c=S.L.c
 | [],i,S,S',s,s',a,_,hS,hu,_,e=>by cases e;exact⟨hu,rfl,hS.L,rfl,rfl⟩
 | v::vs,i,S,S',s,s',a,hv,hS,hu,hn,e=>by
   unfold fS at e
   split at e
   ·exact p6 vs _ _ _ _ _ _ (fun v hv'=>hv v (List.mem_cons_of_mem _ hv')) hS hu hn e
   ·obtain⟨⟨x,S1⟩,s1,e1,e⟩:=aM e
    have h1:=gZ hS hu hn (hv v (List.mem_cons_self ..)) e1
    have h2:=kc hS.L e1
    have h3:=qk e1
    have h4:mZ S1:=tR hS hn (by have:=(Ce hS.L.c).1;omega) e1 h2
    split at e
    ·cases e;exact⟨h1.1,h1.2,h2,h3.1,h3.2.1⟩
    ·obtain⟨g1,g2,g3,g4,g5⟩:=p6 vs _ _ _ _ _ _ (fun v hv'=>hv v (List.mem_cons_of_mem _ hv')) h4 h1.1 (by rw[h1.2];exact hn) e
     exact⟨g1,g2.trans h1.2,g3,g4.trans h3.1,g5.trans h3.2.1⟩
theorem C8{S:bG}(h:dZ S.L)(f t:Int):mZ (S.fresh f t):=⟨h,fun p hp=>(List.not_mem_nil (show p∈([]:List (Int×Unit)) from hp)).elim⟩
theorem xu{c:Cfg}{b:Blk}{S S':bG}{s s':Dev}{a:Int}(hb:∀ v∈b.act::b.used::b.rts,0≤v∧v<18446744073709551616)(hL:dZ S.L)(hu:U64 s)(hn:s.n≤1000000)(e:fZ c b S s= .ok (a,S') s'):U64 s'∧s'.n=s.n∧dZ S'.L∧S'.L.d=S.L.d∧S'.L.c=S.L.c∧S'.L.n=0:=by
 unfold fZ kF at e
 obtain⟨⟨x,S1⟩,s1,e1,e⟩:=aM e
 obtain⟨g1,g2,g3,g4,g5⟩:=p6 _ _ _ _ _ _ _ hb (C8 hL 0 0) hu hn e1
 split at e
 ·obtain⟨S2,s2,e2,e⟩:=aM e
  cases e
  obtain⟨h1,h2,h3,h4,h5,h6⟩:=uJ g3 e2
  exact⟨h1 g1,h2.trans g2,h3,h4.trans g4,h5.trans g5,h6⟩
 ·obtain⟨S2,s2,e2,e⟩:=aM e
  cases e
  obtain⟨h1,h2,h3,h4,h5,h6⟩:=wi g3 e2
  exact⟨h1 g1,h2.trans g2,h3,h4.trans g4,h5.trans g5,h6⟩
theorem rP{X:bE}(h:ev X):∀ v∈X.block.act::X.block.used::X.block.rts,0≤v∧v<18446744073709551616:=fun v hv=>by
 have h1:=h.b.act;have h2:=h.free;have h3:=h.fb;have h4:=h.to_
 simp only[List.mem_cons] at hv
 rcases hv with rfl | rfl | hv
 ·simp only[bE.block];omega
 ·simp only[bE.block];omega
 ·obtain⟨u,_,rfl⟩:=List.mem_map.1 hv
  have:=h.vb u
  omega
theorem zY{bd:Nat}{c:Cfg}{S:bG}{s s':Dev}{ws:List Int}{r:Option bE×Int×bG}(hc:bC c)(hw:∀ v∈ws,0≤v∧v<18446744073709551616)(hL:dZ S.L)(hu:U64 s)(hn:s.n≤1000000)(hL0:S.L.n=0)(e:fF bd c S s ws= .ok r s'):U64 s'∧s'.n=s.n∧dZ r.2.2.L∧r.2.2.L.d=S.L.d∧r.2.2.L.c=S.L.c∧r.2.2.L.n=0∧(∀ X,r.1=some X→ev X):=by
 unfold fF at e
 split at e
 ·cases e;exact⟨hu,rfl,hL,rfl,rfl,hL0,fun _ h=>by cases h⟩
 obtain⟨X,s1,e1,e⟩:=aM e
 have hX0:ev (dR bd c (s.block c).1 ((s.block c).1.rts++ws)):=nt hc (dM hc hu) (fQ hc) (gG hu) fun v hv=>by
  rcases List.mem_append.1 hv with hv | hv
  ·exact gG hu v hv
  ·exact hw v hv
 obtain⟨hX,u1,_⟩:=om _ _ _ _ _ hX0 hu e1
 have n1:=yd e1
 obtain⟨⟨a,S2⟩,s2,e2,e⟩:=aM e
 obtain⟨g1,g2,g3,g4,g5,g6⟩:=xu (rP hX) hL u1 (by rw[n1];exact hn) e2
 split at e
 ·cases e;exact⟨g1,g2.trans n1,g3,g4,g5,g6,fun _ h=>by cases h⟩
 ·cases e;exact⟨g1,g2.trans n1,g3,g4,g5,g6,fun X' h=>by cases h;exact hX⟩
theorem zx(B:World)(H:List HP)(r:Nat):
 ∀ w,Holds B H w→Calls Tryz.prog 139 [.map (some r)].toArray w (Ret B (fun v H'=>∃ bb,v= .func (.func 174) [].toArray [ptr bb].toArray∧H'=row bb [.map (some r)] 159::H) (fun _ _=>False)):=by
 refine au func139 aa ntmps139 aa (ac (ab (aC aa (dA aa aa) .free aa aa ?_)))
 rintro _ _ ⟨b1,rfl,rfl⟩
 refine kPa aa aa (ad (ac (ab (kPv (dm aa aa) aa (kPa aa aa (ad (az ?_)))))))
 exact ax results139 aa (fun w hw=>⟨_,⟨_,rfl,rfl⟩,hw⟩)
theorem xc(B:World)(Fr:List HP)(l f mr bb b2:Nat)(ml:List (Int×Int))(r:Loop)(hrf:r.fn=f)(hrp:r.params.size=1)(hround:∀ (A1 A2:HP) (v:Int) (xs:List Int),xs.length<ml.length→∀ w,Holds B (blk l (.loop r)::A1::A2::lC b2 xs::Fr) w→RoundIn (Wd (cxF f)) 0 Tryz.prog l f ((r.params.zip [i64 v].toArray).foldl (fun tmps (t,a)=>tmps.setIfInBounds t a) r.tmps) r.assign r.body w (Ret B (fun rv H'=>rv= .bool true∧H'=blk l (.loop r)::A1::A2::lC b2 (xs++[v])::Fr) (fun _ _=>False))):
 ∀ w,Holds B (blk l (.loop r)::row bb [.map (some mr)] 159::bJ .i64 i64 mr ml::lC b2 []::Fr) w→Calls Tryz.prog 174 [.func (.yield l) #[] #[],ptr bb].toArray w (Ret B (fun rv H'=>∃ ks:List Int,ks.Perm (ml.map Prod.fst)∧H'=blk l (.loop r)::row bb [.map (some mr)] 159::bJ .i64 i64 mr ml::lC b2 ks::Fr) (fun _ _=>False)):=by
 refine au func174 aa ntmps174 aa (ac (ab (kPv (ae isAgg159 aa aa) aa (aC aa (n7 runUnderlying159 aa) .free aa aa ?_))))
 rintro _ _ ⟨it,rfl,rfl⟩
 refine ad (aO (dY (ι:=List (Int×Int)) (fun d=>d.length≤ml.length) (fun d=>[(0,.func (.yield l) #[] #[]),(1,ptr bb),(5,.pointer (some ⟨it,0,none⟩))]) (fun done=>blk l (.loop r)::row bb [.map (some mr)] 159::gD .i64 i64 mr it ml done::lC b2 (done.map Prod.fst)::Fr) (fun d=>ml.length - d.length) [] (Nat.zero_le _) (fun a w st=>st.to ⟨rfl,rfl,rfl,trivial⟩ id) ?_))
 intro done hdone
 refine ac (ab (aC aa (pU aa) .free aa aa ?_))
 rintro _ _ ⟨bb0,vs,done',rfl,hvs,rfl,hno,hyes⟩
 refine kPv (aB aa hvs) aa (ad (ac ?_))
 refine aW aa (fun h7=> ?_) (fun h7=> ?_)
 ·obtain⟨pp,hpl,hpn,rfl⟩:=hyes h7
  refine jL it fun hl hd hsub=>(ay (aO (ac (ab (kPv (n3 (p0:=pp) (dn:=done) aa) aa (kPv (aB aa aa) aa (kPa aa aa (ad (ac (ab (kPm aa aa ?_)))))))))))
  refine kPm aa aa ?_
  refine iW (f:=f) aa aa (fun w hw=>hw) (by rw[hrp];rfl) hrf (hround _ _ _ _ (by have:=jK hd hsub;simp;omega)) .free aa ?_ ?_
  rotate_left
  ·rintro _ _ ⟨⟩
  rintro _ _ ⟨rfl,rfl⟩
  refine kPv (bF aa) aa (ad (ao [13,5,0,1] rfl (cf aa (rfl) (ay ?_))))
  have hle:=jK hd hsub
  exact fun a w st=>⟨done++[pp],by simp;omega,by simp;omega,st.to ⟨rfl,rfl,rfl,trivial⟩ (fun hh=>by rw[List.map_append];exact hh)⟩
 ·obtain⟨rfl,hall⟩:=hno h7
  refine jL it fun hl hd hsub=>(aK (fun w hh=>hh.iter_end it) (bT ?_))
  exact cS results174 (fun w hh=>⟨_,⟨_,(List.perm_ext_iff_of_nodup hd hl).2 fun x=>⟨fun hx=>by obtain⟨p,hp,rfl⟩:=List.mem_map.1 hx;exact List.mem_map_of_mem (hsub p hp),fun hx=>by obtain⟨p,hp,rfl⟩:=List.mem_map.1 hx;exact List.mem_map_of_mem (hall p hp)⟩,rfl⟩,hh⟩)
theorem xQ(B:World)(Fr:List HP)(mr bb:Nat)(ml:List (Int×Int))(hml:ml.length≤1000000):
 ∀ w,Holds B (row bb [.map (some mr)] 159::bJ .i64 i64 mr ml::Fr) w→Calls Tryz.prog 183 [.slice none 0 0,.func (.func 174) [].toArray [ptr bb].toArray].toArray w (Ret B (fun rv H'=>∃ ks:List Int,ks.Perm (ml.map Prod.fst)∧H'=jA 0 (rv,ks)::bJ .i64 i64 mr ml::Fr) (fun _ _=>False)):=by
 refine go func183 aa ntmps183 aa (ac (ab (aC aa (dA aa aa) .free aa aa ?_)))
 rintro _ _ ⟨b2,rfl,rfl⟩
 refine kPa aa aa (ad (ac (ac (ab (kPm aa aa (ad (aO ?_)))))))
 refine rx (ι:=List Int) (fun ks=>row bb [.map (some mr)] 159::bJ .i64 i64 mr ml::lC b2 ks::Fr) (fun ks=>ks.Perm (ml.map Prod.fst)) (fun _=>False) [] rfl call174 ?_ ?_ ?_
 ·intro l m tmps hts hkn w hh
  have hk2:=hkn 2 _ rfl
  refine(xc B (blk m (.deferred (some []))::Fr) l 183 mr bb b2 ml _ aa aa ?_ w (((((za ((((hh.front 4 aa).front 4 aa).front 2 aa).front 4 aa)).front 0 aa).front 3 aa).front 3 aa).front 3 aa)).mono (Ret.mono ?_ ?_)
  rotate_left
  ·rintro v H' ⟨ks,hks,rfl⟩
   exact⟨ks,hks,fun w hh=>((hh.front 4 aa).front 1 aa)⟩
  ·rintro c H' ⟨⟩
  intro A1 A2 v xs hxs
  have hxs:xs.length≤1000000:=by omega
  refine jd (n:=13) (σ:=[(7,i64 v),(2,ptr b2)]) func183 (by simp[ii,hts]) (KnA.knows (by simp[KnA,ii,hts];exact(Array.getElem?_eq_some_iff.1 hk2).2)) aa ?_;refine ab ?_;refine kPa aa aa ?_;refine ad ?_;refine mS ?_;refine dT 3 aa ?_
  refine By (fun hxe=> ?_) (fun bd rest=> ?_)
  ·subst hxe
   refine aO (ab (kPv (ae isAgg125 aa aa) aa (kPm aa aa (aC aa (iQ runUnderlying125 sizeOf3 zeroValue3 aa aa aa) .free aa aa ?_))))
   rintro _ _ ⟨b1,rfl,rfl⟩
   refine aC aa (ix aa aa runUnderlying125 runUnderlying125 ⟨_,rfl⟩ sizeOf3 zeroValue3 aa Au aa aa (SlR.row (xs:=[i64 v]) aa aa) (by simp) (by simp)) .free aa aa ?_
   rintro _ _ ⟨bn,cn,rest',hcn,hrest,rfl,rfl⟩
   refine aD aa (aR sizeOf125 aa aa aa aa) .free aa ?_
   rintro _ _ rfl
   refine ad (ao [] rfl (dT 3 aa ?_))
   exact nH fun w hh=>⟨_,⟨rfl,rfl⟩,((((((pX (xs:=[]++[v]) (by simp) (by first | omega | (simp at*;omega)) ((hh.front 1 aa).front 3 aa)).front 2 aa).tail.front 0 aa).front 3 aa).front 3 aa).front 3 aa)⟩
  ·skip
   refine aO (ab (kPv (ae isAgg125 aa aa) aa (kPm aa aa (aC aa (iQ runUnderlying125 sizeOf3 zeroValue3 aa aa aa) .free aa aa ?_))))
   rintro _ _ ⟨b1,rfl,rfl⟩
   refine aC aa (ky aa aa runUnderlying125 runUnderlying125 ⟨_,rfl⟩ sizeOf3 zeroValue3 aa Au aa aa (SlR.row (xs:=[i64 v]) aa aa) (by simp) (by omega) (by simp;omega) aa) .free aa aa (fun v2 H2 hY=> ?_)
   revert hY
   generalize hob:Obj.loop _=ob
   intro hY
   have hY2:∃ bn c' rest',c'=xs.length+1+rest'.length∧v2= .slice (some ⟨bn,0,none⟩) (xs.length+1) c'∧∀ w,Holds B H2 w→Holds B (row b2 [.slice (some ⟨bd,0,none⟩) xs.length (xs.length+rest.length)] 125::row bn ((xs++[v]).map i64++rest') 3::blk l ob::A1::A2::blk m (.deferred (some []))::Fr) w:=by
    rcases hY with ⟨h1,rfl,rfl⟩ | ⟨h1,bn,cn,rest',h2,_,rfl,rfl⟩
    ·refine⟨bd,_,rest.drop 1,by simp at h1 ⊢;omega,rfl,fun w hh=> ?_⟩
     have h3:=hh.tail
     rw[y9 (by simp at h1;omega)] at h3
     exact h3
    ·refine⟨bn,_,rest',by simpa using h2.symm,rfl,fun w hh=> ?_⟩
     have h3:=((((hh.front 1 rfl).tail).front 2 rfl).tail).front 1 rfl
     have e:(xs++[v]).map i64++rest'=((xs.map i64++rest).drop 0).take xs.length++[i64 v]++rest':=by simp
     rw[e]
     exact h3
   obtain⟨bn,c',rest',hc',rfl,hY3⟩:=hY2
   refine aK hY3 (aD aa (aR sizeOf125 aa aa aa aa) .free aa ?_)
   rintro _ _ rfl
   refine ad (ao [] rfl ?_)
   subst hob
   refine dT 2 aa ?_
   exact nH fun w hh=>⟨_,⟨rfl,rfl⟩,(((((pX (xs:=xs++[v]) (by simp) (by first | omega | (simp at*;omega)) ((hh.front 2 aa).front 2 aa)).front 0 aa).front 3 aa).front 3 aa).front 3 aa)⟩
 rotate_left
 ·rintro m x ⟨⟩
 intro m ks hks
 refine dT 3 aa (yH fun sv=>(ac (ab (kPv (ae isAgg125 aa aa) aa (kPa aa aa (ad (az ?_)))))))
 exact gx results183 aa (.cons (i:=2) aa .nil) (fun w hh=>⟨_,⟨ks,hks,rfl⟩,(((hh.front 3 aa).front 3 aa).front 2 aa).tail.tail.tail⟩)
theorem wj(B:World)(Fr:List HP)(mr bb:Nat)(ml:List (Int×Int))(hml:ml.length≤1000000):
 ∀ w,Holds B (row bb [.map (some mr)] 159::bJ .i64 i64 mr ml::Fr) w→Calls Tryz.prog 166 [.func (.func 174) [].toArray [ptr bb].toArray].toArray w (Ret B (fun rv H'=>∃ ks:List Int,ks.Perm (ml.map Prod.fst)∧H'=jA 0 (rv,ks)::bJ .i64 i64 mr ml::Fr) (fun _ _=>False)):=by
 refine au func166 aa ntmps166 aa (ac (ab (kPa aa aa (ad (ac (ab (kPm aa aa (aQ aa (aA call183 aa) (xQ _ _ mr bb ml hml) .free aa aa ?_))))))))
 rintro _ _ ⟨ks,hks,rfl⟩
 refine kPa aa aa (ad (az ?_))
 exact ax results166 aa (fun w hw=>⟨_,⟨ks,hks,rfl⟩,hw⟩)
theorem wL(B:World)(Fr:List HP)(mr bb:Nat)(ml:List (Int×Int))(hml:ml.length≤1000000):
 ∀ w,Holds B (row bb [.map (some mr)] 159::bJ .i64 i64 mr ml::Fr) w→Calls Tryz.prog 124 [.func (.func 174) [].toArray [ptr bb].toArray].toArray w (Ret B (fun rv H'=>H'=jA 0 (rv,cG (ml.map Prod.fst))::bJ .i64 i64 mr ml::Fr) (fun _ _=>False)):=by
 refine au func124 aa ntmps124 aa (ac (ab (kPa aa aa (ad (ac (ab (kPm aa aa (aQ aa (aA call166 aa) (wj _ _ mr bb ml hml) .free aa aa ?_))))))))
 rintro v5 _ ⟨ks,hks,rfl⟩
 have hkl:ks.length≤1000000:=by rw[hks.length_eq,List.length_map];exact hml
 refine kPa aa aa (ad (ac (ab (kPm aa aa (aQ aa (aA call167 aa) (uZ _ _ _ ks hkl) .free aa aa ?_)))))
 rintro _ _ rfl
 refine ad (ac (ab (kPm aa aa (kPa aa aa (ad (ao [2] rfl (az ?_)))))))
 exact ax results124 aa (fun w hw=>⟨_,rfl,by rw[←qx hks];exact hw⟩)
structure cX where
 at_:List (Int×Int)
 no:List (Int×Int)
 last:Int
def fc(b:Nat)(T:cX):HP:=hex fun (x:Nat×Nat)=>grp [row b [.map (some x.1),.map (some x.2),i64 T.last] 161,bJ .i64 i64 x.1 T.at_,bJ .i64 i64 x.2 T.no]
theorem ru{B:World}{n:Nat}{D:List Deferred}{σ:Env}{b:Nat}{T:cX}{Fr:List HP}{K:Act→World→Prop}(h:∀ b1 b2,GO B n D σ (row b [.map (some b1),.map (some b2),i64 T.last] 161::bJ .i64 i64 b1 T.at_::bJ .i64 i64 b2 T.no::Fr) K):GO B n D σ (fc b T::Fr) K:=fun a w st=>by
 obtain⟨x,hx⟩:=st.holds.hex
 exact h _ _ a w ⟨st.toStA,hx.grp⟩
theorem fJ{B:World}{b b1 b2:Nat}{T:cX}{Fr:List HP}{w:World}(h:Holds B (row b [.map (some b1),.map (some b2),i64 T.last] 161::bJ .i64 i64 b1 T.at_::bJ .i64 i64 b2 T.no::Fr) w):Holds B (fc b T::Fr) w:=
 Holds.unhex (b1,b2) (Holds.ungrp (l:=[row b [.map (some b1),.map (some b2),i64 T.last] 161,bJ .i64 i64 b1 T.at_,bJ .i64 i64 b2 T.no]) h)
theorem yE(B:World)(H:List HP):
 ∀ w,Holds B H w→Calls Tryz.prog 70 [].toArray w (Ret B (fun rv H'=>∃ b,rv=ptr b∧H'=fc b ⟨[],[],0⟩::H) (fun _ _=>False)):=by
 refine au func70 aa ntmps70 aa (ac (ab (kPa aa aa (ad (ac (ab (aC aa (eM .i64 i64) .free aa aa ?_)))))))
 rintro _ _ ⟨b1,rfl,rfl⟩
 refine aC aa (eM .i64 i64) .free aa aa ?_
 rintro _ _ ⟨b2,rfl,rfl⟩
 refine aq aa (aZ aa (wq _ _ (by first | rfl | assumption) (by first | rfl | assumption))) .free rfl rfl ?_;refine aC aa (bx aa) .free aa aa ?_
 rintro _ _ ⟨b4,rfl,rfl⟩
 refine kPa aa aa (ad (az ?_))
 exact ax results70 aa (fun w hh=>⟨_,⟨_,rfl,rfl⟩,fJ (T:=⟨[],[],0⟩) ((hh.front 2 aa).back 1 (by simp))⟩)
theorem oF(B:World)(Fr:List HP)(b:Nat)(T:cX)(n:Int):
 ∀ w,Holds B (fc b T::Fr) w→Calls Tryz.prog 121 [ptr b,i64 n].toArray w (bB B (fc b T::Fr) (.tuple #[i64 ((bi T.at_ n).getD 0),.bool (bi T.at_ n).isSome])):=by
 refine au func121 aa ntmps121 aa (ru fun b1 b2=>(ac (ab (kPa aa aa (kPa aa aa (ad (ac (ab (kPm aa aa (kPv (ak aa) aa (kPv (aj (m:=_) iI aa aa) aa ?_)))))))))))
 refine kPv (ae isAgg159 aa aa) aa (kPm aa aa (kPv ((fE runUnderlying159 runUnderlying3 zeroValue3 aa aa).eq (congrArg (fun v=>Value.tuple #[v,.bool _]) (ow _))) aa (kPm aa aa (kPv (aB aa aa) aa (kPv (aB aa aa) aa (kPa aa aa (kPa aa aa (ad (ao [7,6,5,4] rfl (ac (ab ?_)))))))))))
 refine kPm aa aa (kPm aa aa (kPa aa aa (kPa aa aa (ad (az ?_)))))
 exact bg results121 aa aa (fun w hh=>⟨rfl,fJ hh⟩)
theorem Bt(B:World)(Fr:List HP)(b:Nat)(T:cX)(n:Int):
 ∀ w,Holds B (fc b T::Fr) w→Calls Tryz.prog 83 [ptr b,i64 n].toArray w (Ret B (fun rv H'=>rv= .bool (bi T.at_ n).isSome∧H'=fc b ⟨ji T.at_ n,if (bi T.at_ n).isSome=true then ji T.no ((bi T.at_ n).getD 0) else T.no,T.last⟩::Fr) (fun _ _=>False)):=by
 refine au func83 aa ntmps83 aa (ru fun b1 b2=>(ac (ab (kPa aa aa (ad (ac (ab (kPm aa aa (kPv (ak aa) aa (kPv (aj (m:=_) iI aa aa) aa (kPv (ae isAgg159 aa aa) aa ?_)))))))))))
 refine kPm aa aa (kPv ((fE runUnderlying159 runUnderlying3 zeroValue3 aa aa).eq (congrArg (fun v=>Value.tuple #[v,.bool _]) (ow _))) aa (kPm aa aa (kPv (aB aa aa) aa (kPv (aB aa aa) aa (kPa aa aa (kPa aa aa (ad (ao [6,5,4,0,1] rfl (ac (ab (kPm aa aa ?_)))))))))))
 refine kPv (ak aa) aa (kPv (aj (m:=_) iI aa aa) aa (kPv (ae isAgg159 aa aa) aa (kPm aa aa (aD aa (tH aa runUnderlying159 runUnderlying3 aa aa) .free aa ?_))))
 rintro _ _ rfl
 refine ad (ac (ac (ab (kPm aa aa (ad ?_)))))
 refine aW aa (fun h21=> ?_) (fun h21=> ?_)
 ·try simp only[decide_eq_true_eq,decide_eq_false_iff_not,Bool.not_eq_true',Bool.not_eq_false',Bool.or_eq_true,Bool.and_eq_true,Bool.and_eq_false_iff,Bool.or_eq_false_iff,beq_iff_eq,bne_iff_ne,beq_eq_false_iff_ne,bne_eq_false_iff_eq,ge_iff_le,gt_iff_lt,ne_eq] at h21
  refine ab (kPm aa aa (kPv (ak aa) aa (kPv (aj (m:=_) lU aa aa) aa (kPv (ae isAgg159 aa aa) aa (kPm aa aa (aD aa (tH aa runUnderlying159 runUnderlying3 aa aa) .free aa ?_))))))
  rintro _ _ rfl
  refine ad (ao [6,4] rfl (ac (ab (kPm aa aa (kPa aa aa (ad (az ?_)))))))
  exact ax results83 aa (fun w hh=>⟨_,⟨rfl,rfl⟩,by rw[if_pos h21];exact fJ hh⟩)
 ·try simp only[decide_eq_true_eq,decide_eq_false_iff_not,Bool.not_eq_true',Bool.not_eq_false',Bool.or_eq_true,Bool.and_eq_true,Bool.and_eq_false_iff,Bool.or_eq_false_iff,beq_iff_eq,bne_iff_ne,beq_eq_false_iff_ne,bne_eq_false_iff_eq,ge_iff_le,gt_iff_lt,ne_eq] at h21
  refine ay (ac (ab (kPm aa aa (kPa aa aa (ad (ao [4] rfl (az ?_)))))))
  exact ax results83 aa (fun w hh=>⟨_,⟨rfl,rfl⟩,by rw[if_neg (by rw[h21];decide)];exact fJ hh⟩)
theorem vp{α:Type}{k:Int}{z u:α}:∀ {l:List (Int×α)},(∀ p∈l,p.1≠k)→mset (l++[(k,z)]) k u=l++[(k,u)]
 | [],_=>by simp[mset]
 | p::l,h=>by
   simp only[List.cons_append,mset]
   rw[if_neg (h p (List.mem_cons_self ..)),vp fun q hq=>h q (List.mem_cons_of_mem _ hq)]
theorem kQ{α:Type}{k:Int}{z u:α}{l:List (Int×α)}:mset (kU l k z) k u=mset l k u:=by
 unfold kU
 cases hc:eS l k 0 with
 | none=>rw[kT hc];exact vp (iG hc)
 | some v=>rfl
def cX.take(T:cX)(p:Int):Int×cX:=
 if p=0 then (0,T) else if (bi T.no p).isSome=true then ((bi T.no p).getD 0,T)
 else (T.last+1,⟨mset T.at_ (T.last+1) p,mset T.no p (T.last+1),T.last+1⟩)
theorem jj(B:World)(Fr:List HP)(b:Nat)(T:cX)(p:Int)(hT:0≤T.last∧T.last≤1000000000):
 ∀ w,Holds B (fc b T::Fr) w→Calls Tryz.prog 57 [ptr b,i64 p].toArray w (Ret B (fun rv H'=>rv=i64 (T.take p).1∧H'=fc b (T.take p).2::Fr) (fun _ _=>False)):=by
 refine au func57 aa ntmps57 aa (ru fun b1 b2=>(ac (ab (kPa aa aa (ad (ac (ac (ab (kPm aa aa (kPv (an aa aa aa) aa (ad ?_)))))))))))
 refine aW aa (fun h8=> ?_) (fun h8=> ?_)
 ·have hk:p=0:=by simpa using h8
  have hres:T.take p=(0,T):=by unfold cX.take;rw[if_pos hk]
  refine ac (ab (kPa aa aa (ad (az ?_))))
  exact ax results57 aa (fun w hh=>⟨_,⟨by rw[hres],rfl⟩,by rw[hres];exact fJ hh⟩)
 ·have hk:¬ p=0:=by simpa using h8
  refine ay (ac (ac (ab (kPm aa aa (kPv (ak aa) aa (kPv (aj (m:=_) lU aa aa) aa (kPv (ae isAgg159 aa aa) aa (kPm aa aa (kPv ((fE runUnderlying159 runUnderlying3 zeroValue3 aa aa).eq (congrArg (fun v=>Value.tuple #[v,.bool _]) (ow _))) aa (kPm aa aa (kPv (aB aa aa) aa ?_)))))))))))
  refine kPv (aB aa aa) aa (kPa aa aa (kPa aa aa (ad (ao [6,5,4,0,1] rfl (ac (ab (kPm aa aa (ad ?_))))))))
  refine aW aa (fun h18=> ?_) (fun h18=> ?_)
  ·have hres:T.take p=((bi T.no p).getD 0,T):=by unfold cX.take;rw[if_neg hk,if_pos h18]
   refine ac (ab (kPm aa aa (kPa aa aa (ad (az ?_)))))
   exact ax results57 aa (fun w hh=>⟨_,⟨by rw[hres];rfl,rfl⟩,by rw[hres];exact fJ hh⟩)
  ·have hres:T.take p=(T.last+1,⟨mset T.at_ (T.last+1) p,mset T.no p (T.last+1),T.last+1⟩):=by unfold cX.take;rw[if_neg hk,if_neg (by rw[h18];decide)]
   refine ay (ac (ab (kPm aa aa (kPv (ak aa) aa (kPv (aj (m:=_) lT aa aa) aa (kPv (ae isAgg3 aa aa) aa (kPv (aS aa aa) aa (kPv (ak aa) aa (kPv (aj (m:=_) lT aa aa) aa (aD aa (aR sizeOf3 aa aa aa aa) .free aa ?_))))))))))
   rintro _ _ rfl
   refine ad (ao [4,0,1] rfl (ac (cM [0,1,2,3,4,5,6,7,8,9,10,11,12,13,14,15,16,17,18,19,20,21,22,23] [18,20,21,23] [12,13] [18,20] [] Tryz.mixed (by kernel_rfl) ?_)))
   refine aT aa aa aa (ap aa) .free aa (aT aa aa aa (ak aa) .free aa (aT aa aa aa (aj (m:=_) iI aa aa) .free aa (aT aa aa aa (ae isAgg159 aa aa) .free aa (aT aa aa aa (ap aa) .free aa (aT aa aa aa (ak aa) .free aa (aT aa aa aa (aj (m:=_) lT aa aa) .free aa (aT aa aa aa (ae isAgg3 aa aa) .free aa (aT aa aa aa (ap aa) .free aa (aT aa aa aa (ak aa) .free aa (aT aa aa aa (aj (m:=_) lU aa aa) .free aa (aT aa aa aa (ae isAgg159 aa aa) .free aa ?_)))))))))))
   refine al aa aa aa (ap aa) .free aa (al aa aa aa (ap aa) .free aa (aT aa aa aa (ap aa) .free aa (aT aa aa aa (ak aa) .free aa (aT aa aa aa (aj (m:=_) lT aa aa) .free aa (aT aa aa aa (ae isAgg3 aa aa) .free aa (aU aa aa (dT 1 aa ?_)))))))
   simp only[List.eraseIdx_cons_succ,List.eraseIdx_cons_zero]
   refine aC aa (jN (u0:=(0:Int)) runUnderlying159 runUnderlying3 zeroValue3 aa aa) .free aa aa ?_
   rintro _ _ ⟨z1,st1,rfl,rfl⟩
   refine ad (cN (aT aa aa aa (aB aa aa) .free aa (aU aa aa (aD aa (iv aa aa aa aa) .free aa ?_))))
   rintro _ _ rfl
   refine ad (cN (aU aa aa (dT 2 aa ?_)))
   simp only[List.eraseIdx_cons_succ,List.eraseIdx_cons_zero]
   refine aC aa (jN (u0:=(0:Int)) runUnderlying159 runUnderlying3 zeroValue3 aa aa) .free aa aa ?_
   rintro _ _ ⟨z2,st2,rfl,rfl⟩
   refine ad (c9 aa (aT aa aa aa (aB aa aa) .free aa (aU aa aa (aD aa (iv aa aa aa aa) .free aa ?_))))
   rintro _ _ rfl
   refine ad (c9 aa (cJ (ao [4,0] rfl (ac (ab (kPm aa aa (kPv (ak aa) aa (kPv (aj (m:=_) lT aa aa) aa (kPv (ae isAgg3 aa aa) aa (kPa aa aa (ad ?_)))))))))))
   refine az ?_
   exact ax results57 aa (fun w hh=>⟨_,⟨by rw[hres],rfl⟩,by rw[hres];rw[kQ,kQ] at hh;exact fJ (T:=⟨_,_,_⟩) ((hh.front 1 aa).front 2 aa)⟩)
theorem pm(B:World)(Fr:List HP)(b:Nat)(T:cX)(hTl:T.at_.length≤1000000):
 ∀ w,Holds B (fc b T::Fr) w→Calls Tryz.prog 75 [ptr b].toArray w (Ret B (fun rv H'=>H'=jA 0 (rv,cG (T.at_.map Prod.fst))::fc b T::Fr) (fun _ _=>False)):=by
 refine au func75 aa ntmps75 aa (ru fun b1 b2=>(ac (ab (kPa aa aa (ad (ac (ab (kPm aa aa (kPv (ak aa) aa (kPv (aj (m:=_) iI aa aa) aa (kPv (ae isAgg159 aa aa) aa ?_)))))))))))
 refine aQ aa (aA call139 aa) (zx _ _ _) .free aa aa ?_
 rintro _ _ ⟨bb,rfl,rfl⟩
 refine aK (H':=row bb [.map (some b1)] 159::bJ .i64 i64 b1 T.at_::row b [.map (some b1),.map (some b2),i64 T.last] 161::bJ .i64 i64 b2 T.no::Fr) (fun w hh=>(hh.front 2 aa).back 1 (by simp)) (aQ aa (aA call124 aa) (wL _ _ b1 bb T.at_ hTl) .free aa aa ?_)
 rintro v8 _ rfl
 refine kPa aa aa (ad (ao [2] rfl (az ?_)))
 exact ax results75 aa (fun w hh=>⟨_,rfl,Holds.front (A:=jA 0 (v8,cG (T.at_.map Prod.fst))) (fJ (T:=T) (((hh.front 3 aa).front 2 aa).front 3 aa)) 1 aa⟩)
section
variable {B:World} {σ:Env} {H:List HP} {P:Program} {d:Option Tmp} {ty:TypeId} {p:String} {af:Array Edge} {g:Option (Nat×Bool)}
theorem wP{t k e:TypeId}{q:Option Nat}(ht:∀ w,(underlying t).run P w= .ok (.map k e) w)(w:World):(Op.equal t (.map q) (.map none)).run P w= .ok q.isNone w:=by
 show(Op.equalIn (9999+1) t (.map q) (.map none)).run P w=_
 rw[Op.equalIn];simp only[Sem.run_bind,ht,Result.andThen_ok];cases q<;>rfl
theorem ED{op:BinOp}{x y:Operand}{q:Option Nat}{c:Bool}{t u k e:TypeId}(ht:∀ w,(underlying t).run P w= .ok (.map k e) w)(hx:evO σ x=some (.map q))(hy:evO σ y=some (.map none))(hc:(match op with | .eql=>some q.isNone | .neq=>some (!q.isNone) | _=>none)=some c):
 Evs P B σ H ⟨d,.binOp op t x y u,ty,p,af,g⟩ (.bool c):=by
 intro a w kn _
 cases op<;>simp at hc<;>subst hc<;>simp only[execOp,kn.eval hx,kn.eval hy]<;>simp[binOp,eqGuard,wP ht]
theorem EA{x:Operand}{s t:TypeId}{v:Value}{td:TypeDesc}(ht:∀ w,(underlying t).run P w= .ok td w)(hi:zI td=false)(hx:evO σ x=some (.iface t v)):Evs P B σ H ⟨d,.typeAssert x s t false,ty,p,af,g⟩ v:=by
 intro a w kn _
 cases td<;>simp[zI] at hi<;>simp[execOp,kn.eval hx,Instr.typeAssert,ht]
theorem zZ{α:Type}{kk:IntKind}{enc:α→Value}{r:Nat}{l:List (Int×α)}{U:List (Int×α)→List HP}{f:FuncId}{x:Operand}{t:TypeId}{at_:Array TypeId}(hc:∀ (args:Array Value) (w:World),(callFunc f args).run P w=((Extern.MapsClone.clone args).run P w).andThen fun v w'=> .ok (.value v) w')
 (hx:evO σ x=some (.iface t (.map (some r)))) [m:kB H r kk enc l U]:
 Chg P B σ H ⟨d,.call ⟨.value (.func f), #[x],at_⟩,ty,p,af,g⟩ (fun v H'=>∃ b,v= .iface t (.map (some b))∧H'=bJ kk enc b l::H):=by
 intro a w kn hh
 obtain⟨bn,clock,ho,hm⟩:=m.obj hh
 refine⟨.value (.iface t (.map (some w.heap.size))),{w with heap:=w.heap.push (.map (cm kk enc bn l).toArray clock)},?_,_,.inl aa,_,⟨_,rfl,rfl⟩,?_⟩
 ·have e:Extern.MapsClone.clone #[.iface t (.map (some r))]=(getObj r>>=fun o=>match o with
   | .map entries clock=>(newObj (.map entries clock)>>=fun n=>pure (.iface t (.map (some n))))
   | _=>stuck "maps.clone: a map expected"):=rfl
  have hg:(getObj r).run P w= .ok (.map (cm kk enc bn l).toArray clock) w:=by simp[getObj,Sem.run,ho]
  have hfe:a.eval (.func f)= .func (.func f) #[] #[]:=rfl
  simp[execOp,resolve,Deferred.ofValue,invoke,hfe,kn.eval hx,hc,e,hg]
 ·exact(hh.new (.map (cm kk enc bn l).toArray clock)).map fun _ a=>ke (fun k hk=>⟨bn,clock,hk,hm⟩) a
end
theorem zA(B:World)(H:List HP)(r:Nat)(l:List (Int×Int))(U:List (Int×Int)→List HP)(m:kB H r .i64 i64 l U):
 ∀ w,Holds B H w→Calls Tryz.prog 177 [.map (some r)].toArray w (Ret B (fun rv H'=>∃ b,rv= .map (some b)∧H'=bJ .i64 i64 b l::H) (fun _ _=>False)):=by
 refine au func177 aa ntmps177 aa (ac (ab (kPa aa aa (ad (ac (ac (ab (kPm aa aa (kPv (ED runUnderlying159 aa aa aa) aa (ad (cf aa (rfl) ?_)))))))))))
 refine ay (ac (ab (kPm aa aa (kPv (BM runUnderlying159 aa aa) aa (aC aa (zZ (fun args w=>run_callFunc_extern func187 (by kernel_rfl) (by kernel_rfl) (by kernel_rfl) (e:=Extern.MapsClone.clone) (by kernel_rfl) args w) aa) .free aa aa ?_)))))
 rintro _ _ ⟨b,rfl,rfl⟩
 refine kPv (EA runUnderlying159 aa aa) aa (kPa aa aa (ad (ao [2] rfl (az ?_))))
 exact ax results177 aa (fun w hh=>⟨_,⟨b,rfl,rfl⟩,hh⟩)
structure Ch(B:World)(f:FuncId)(fi ca:List Value)(ε:Type)(ExL:ε→List HP)(okp:Int→Prop)(to_:Int→Int)(st:Int→ε→ε):Prop where
 enter:∀ args w,(callFunc f args).run Tryz.prog w= .ok (.enter f args) w
 says:∀ (Fr:List HP) (p:Int) (e:ε),okp p→∀ w,Holds B (ExL e++Fr) w→Calls Tryz.prog f (fi++[i64 p]++ca).toArray w (Ret B (fun rv H'=>rv=i64 (to_ p)∧H'=ExL (st p e)++Fr) (fun _ _=>False))
def dC(to_:Int→Int)(x:List (Int×Int)×List (Int×Int))(p:Int×Int):List (Int×Int)×List (Int×Int):=if to_ p.2≠0 then (mset x.1 p.1 (to_ p.2),mset x.2 (to_ p.2) p.1) else x
def cX.moved(to_:Int→Int)(last:Int)(ord:List (Int×Int)):cX:=⟨(ord.foldl (dC to_) ([],[])).1,(ord.foldl (dC to_) ([],[])).2,last⟩
theorem Holds.hop0{B:World}{w:World}(L M:List HP){E:List HP}(h:Holds B (L++(M++E)) w):Holds B (M++(L++E)) w:=
 h.perm (by rw[←List.append_assoc, ←List.append_assoc];exact List.Perm.append_right _ List.perm_append_comm)
theorem qS{α:Type}{l:List (Int×α)}(h:(l.map Prod.fst).Nodup):l.Nodup:=List.Pairwise.of_map Prod.fst (fun a b h e=>h (by rw[e])) h
theorem li{α β:Type}(f:β→α→β)(l:List α)(a:α)(b:β):(l++[a]).foldl f b=f (l.foldl f b) a:=by rw[List.foldl_append];rfl
theorem tn(B:World)(Fr:List HP)(b:Nat)(T:cX)(f:FuncId)(fi ca:List Value)(ε:Type)(ExL:ε→List HP)(okp:Int→Prop)(to_:Int→Int)(st:Int→ε→ε)(hM:Ch B f fi ca ε ExL okp to_ st)(hok:∀ p∈T.at_,okp p.2)(e0:ε):
 ∀ w,Holds B (fc b T::(ExL e0++Fr)) w→Calls Tryz.prog 142 [ptr b,.func (.func f) fi.toArray ca.toArray].toArray w (Ret B (fun _ H'=>∃ ord:List (Int×Int),ord.Perm T.at_∧H'=fc b (cX.moved to_ T.last ord)::(ExL (ord.foldl (fun e (p:Int×Int)=>st p.2 e) e0)++Fr)) (fun _ _=>False)):=by
 refine au func142 aa ntmps142 aa (ru fun b1 b2=>(ac (ab (kPm aa aa (kPv (ak aa) aa (kPv (aj (m:=_) iI aa aa) aa (kPv (ae isAgg159 aa aa) aa (aQ aa (aA call177 aa) (zA B _ b1 T.at_ _ inferInstance) .free aa aa ?_))))))))
 rintro _ _ ⟨bo,rfl,rfl⟩
 refine kPa aa aa (ad (ac (ab (kPm aa aa (kPv (ak aa) aa (kPv (aj (m:=_) iI aa aa) aa (kPv (ae isAgg159 aa aa) aa (aD aa (n8 aa runUnderlying159 aa) .free aa ?_))))))))
 rintro _ _ rfl
 refine ad (ao [4,0,1] rfl (ac (ab (kPm aa aa (kPv (ak aa) aa (kPv (aj (m:=_) lU aa aa) aa (kPv (ae isAgg159 aa aa) aa (aD aa (n8 aa runUnderlying159 aa) .free aa ?_))))))))
 rintro _ _ rfl
 refine ad (ac (ab (kPm aa aa (aC aa (n7 runUnderlying159 aa) .free aa aa ?_))))
 rintro _ _ ⟨it,rfl,rfl⟩
 refine ad (aO (cR (ι:=List (Int×Int)) [22,0,1] (fun done=>(done.length≤T.at_.length)) (fun done=>[]) (fun done=>row b [.map (some b1),.map (some b2),i64 T.last] 161::bJ .i64 i64 b1 (done.foldl (dC to_) ([],[])).1::bJ .i64 i64 b2 (done.foldl (dC to_) ([],[])).2::gD .i64 i64 bo it T.at_ done::(ExL (done.foldl (fun e (p:Int×Int)=>st p.2 e) e0)++Fr)) (fun done=>T.at_.length - done.length) ([]) (Nat.zero_le _) (fun a w st=>st.to trivial (fun hh=>(hh.pk [1,1,1]))) ?_))
 rintro done hdl
 try simp only at hdl ⊢
 refine cg (σ':=[(22,_),(0,_),(1,_)]) (aF aa) (ac (ab (aC aa (pU aa) .free aa aa ?_)))
 rintro _ _ ⟨bb0,vs,done',rfl,hvs,rfl,hno,hyes⟩
 refine kPv (aB aa hvs) aa (ad (ac ?_))
 refine aW aa (fun h24=> ?_) (fun h24=> ?_)
 ·obtain⟨pp,hpl,hpn,rfl⟩:=hyes h24
  refine jL it fun hl hd hsub=>(ay (aO (ac (ab (kPv (n3 (p0:=pp) (dn:=done) aa) aa (kPv (aB aa aa) aa (kPv (aB aa aa) aa (kPa aa aa (kPa aa aa (ad (ac ?_)))))))))))
  refine ab (kPm aa aa (kPm aa aa ?_))
  refine aY aa (ku hM.enter aa aa) (fun w hh=>hM.says ([row b [.map (some b1),.map (some b2),i64 T.last] 161,bJ .i64 i64 b1 (done.foldl (dC to_) ([],[])).1,bJ .i64 i64 b2 (done.foldl (dC to_) ([],[])).2,gD .i64 i64 bo it T.at_ (done++[pp])]++Fr) pp.2 (done.foldl (fun e (p:Int×Int)=>st p.2 e) e0) (hok pp hpl) w (Holds.hop0 [row b [.map (some b1),.map (some b2),i64 T.last] 161,bJ .i64 i64 b1 (done.foldl (dC to_) ([],[])).1,bJ .i64 i64 b2 (done.foldl (dC to_) ([],[])).2,gD .i64 i64 bo it T.at_ (done++[pp])] (ExL (done.foldl (fun e (p:Int×Int)=>st p.2 e) e0)) hh)) .free aa aa ?_ ?_
  rotate_left
  ·rintro _ _ ⟨⟩
  rintro _ _ ⟨rfl,rfl⟩
  refine aK (H':=[row b [.map (some b1),.map (some b2),i64 T.last] 161,bJ .i64 i64 b1 (done.foldl (dC to_) ([],[])).1,bJ .i64 i64 b2 (done.foldl (dC to_) ([],[])).2,gD .i64 i64 bo it T.at_ (done++[pp])]++(ExL (st pp.2 (done.foldl (fun e (p:Int×Int)=>st p.2 e) e0))++Fr)) (fun w hh=>Holds.hop0 (ExL (st pp.2 (done.foldl (fun e (p:Int×Int)=>st p.2 e) e0))) [row b [.map (some b1),.map (some b2),i64 T.last] 161,bJ .i64 i64 b1 (done.foldl (dC to_) ([],[])).1,bJ .i64 i64 b2 (done.foldl (dC to_) ([],[])).2,gD .i64 i64 bo it T.at_ (done++[pp])] hh) ?_
  simp only[List.cons_append,List.nil_append]
  refine kPa aa aa (ad (ao [7,5,22,0,1] rfl (ac (ab (kPm aa aa (kPv (an aa aa aa) aa (ad ?_)))))))
  refine aW aa (fun h32=> ?_) (fun h32=> ?_)
  ·have hnz:to_ pp.2≠0:=by simpa using h32
   refine cM [0,1,2,3,4,5,6,7,8,9,10,11,12,13,14,15,16,17] [12,14,15,17] [9,10,11] [12,14,15] [row b [.map (some b1),.map (some b2),i64 T.last] 161] Tryz.mixed (by kernel_rfl) ?_
   refine aT aa aa aa (ap aa) .free aa (aT aa aa aa (ak aa) .free aa (aT aa aa aa (aj (m:=_) iI aa aa) .free aa (aT aa aa aa (ae isAgg159 aa aa) .free aa (aT aa aa aa (ap aa) .free aa (aT aa aa aa (ap aa) .free aa (aT aa aa aa (ak aa) .free aa (aT aa aa aa (aj (m:=_) lU aa aa) .free aa (aT aa aa aa (ae isAgg159 aa aa) .free aa (al aa aa aa (ap aa) .free aa (al aa aa aa (ap aa) .free aa (al aa aa aa (ap aa) .free aa ?_)))))))))))
   refine aU aa aa (aJ [1] (aC aa (jN (u0:=(0:Int)) runUnderlying159 runUnderlying3 zeroValue3 aa aa) .free aa aa ?_))
   rintro _ _ ⟨z1,st1,rfl,rfl⟩
   refine ad (cN (aT aa aa aa (aB aa aa) .free aa (aU aa aa (aD aa (iv aa aa aa aa) .free aa ?_))))
   rintro _ _ rfl
   refine ad (cN (aU aa aa (aJ [2] (aC aa (jN (u0:=(0:Int)) runUnderlying159 runUnderlying3 zeroValue3 aa aa) .free aa aa ?_))))
   rintro _ _ ⟨z2,st2,rfl,rfl⟩
   refine ad (cN (aT aa aa aa (aB aa aa) .free aa (aU aa aa (aD aa (iv aa aa aa aa) .free aa ?_))))
   rintro _ _ rfl
   refine ad (c9 aa (cJ (ao [22,0,1] rfl ?_)))
   have hle:=jK hd hsub
   exact fun a w st_=>⟨done++[pp],by first | omega | (simp;omega),by first | omega | (simp;omega),st_.to ⟨rfl,rfl,rfl,trivial⟩ (fun hh=>(by have h:=(hh.pk [2,1]);rw[kQ,kQ] at h;rw[li,li,show dC to_ (done.foldl (dC to_) ([],[])) pp=(mset _ pp.1 (to_ pp.2),mset _ (to_ pp.2) pp.1) from if_pos hnz];exact h))⟩
  ·have hnz:to_ pp.2=0:=by simpa using h32
   refine ay ?_
   have hle:=jK hd hsub
   exact fun a w st_=>⟨done++[pp],by first | omega | (simp;omega),by first | omega | (simp;omega),st_.to ⟨rfl,rfl,rfl,trivial⟩ (fun hh=>(by have h:=hh;rw[li,li,show dC to_ (done.foldl (dC to_) ([],[])) pp=_ from if_neg (by simpa using hnz)];exact h))⟩
 ·obtain⟨rfl,hall⟩:=hno h24
  refine jL it fun hl hd hsub=>(bT ?_)
  exact cS results142 (fun w hh=>⟨_,⟨done',(List.perm_ext_iff_of_nodup (qS hd) (qS hl)).2 fun x=>⟨hsub x,hall x⟩,rfl⟩,fJ (T:=cX.moved to_ T.last done') (hh.dp [3])⟩)
end Go.Proofs.YtlcibdhmgclfjaaGreat
