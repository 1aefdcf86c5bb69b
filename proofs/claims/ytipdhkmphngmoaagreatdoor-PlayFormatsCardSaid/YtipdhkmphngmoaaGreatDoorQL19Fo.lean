/- Part of a law's texts. Conditions: none. -/
import Derived.Test.YtipdhkmphngmoaaGreatDoorQL19Fn
open Go.Proofs.Tryz
set_option linter.all false
namespace Go.Proofs.YtipdhkmphngmoaaGreatDoor
open Go
def HpO(bh:Nat):Option HpS→HP
 | none=>pr True
 | some h=>bZ bh h
def hpv(bh:Nat):Option HpS→Value
 | none=> .pointer none
 | some _=>ptr bh
def AE(bd:Nat)(ho:Option HpS)(s:Dev)(ch k:Int)(ns:List Int)(l:List UInt8)(ho':Option HpS)(s':Dev)(ch':Int):Prop:=
 (k=16∧l=[111,107]∧ho'=ho∧(∃ pa,s'={s with pa:=pa,pow:=⟨nA ns 0,0⟩})∧ch'=ns.getD 1 0)∨
 (k=17∧ch'=ch∧((∃ e,e≠0∧gi bd s e∧l=okS e∧ho'=none∧s'=s)∨(∃ L',gi bd s 0∧(bP bd s.readC.1 s).undo s= .ok L' s'∧l=okS 0∧ho'=some (cz bd s.readC.1 s'))))∨
 (k<16∧ho=none∧l=[99,108,111,115,101,100]∧ho'=none∧s'=s∧ch'=ch)∨
 (k<16∧∃ h h',ho=some h∧ho'=some h'∧ch'=ch∧h.plays s k ns l h' s')
def uh(bd:Nat)(ho:Option HpS)(s:Dev)(k:Int)(ns:List Int)(s':Dev):Prop:=
 (k=17∧gi bd s 0∧(bP bd s.readC.1 s).undo s= .off s')∨(k<14∧∃ h,ho=some h∧h.cuts s s' (cB k ns))
theorem yY(B:World)(Fr:List HP)(sv:Value)(xs:List Int)(hx0:0<xs.length)(hx1:xs.length≤100000)(hr:SlR B Fr sv (xs.map w64)):
 ∀ w,Holds B Fr w→Calls Tryz.prog 16 [sv].toArray w (Ret B (fun rv H'=>∃ bp bd pa,rv=ptr bp∧H'=ax bd ⟨pa,⟨-1,0⟩,(xs.length+7) / 8*8,fun i=>xs.getD i 0,fun i=>xs.getD i 0,fun _=>none⟩::cu bp bd (.pointer none) 0::Fr) (fun _ _=>False)):=by
 refine ak func16 aa ntmps16 aa (ac (ab (kPa aa aa (ad (ac (ab (aE aa (ar call56 aa) (jA _ _ _) .free aa aa ?_)))))))
 rintro _ _ ⟨pb,rfl,rfl⟩
 refine kPm aa aa (aE aa (ar call55 aa) (ru B _ pb ⟨-1,0⟩ sv xs hx0 hx1 hr.up) .free aa aa ?_)
 rintro _ _ ⟨bd,rfl,rfl⟩
 refine ao aa (aR aa (q6 _ (by first | rfl | assumption))) .free rfl rfl ?_;refine kPb (aY aa) aa fun b7=> ?_;refine kPa aa aa ?_;refine ad ?_;refine au ?_
 exact aq results16 aa (fun w hh=>⟨_,⟨_,bd,pb,rfl,rfl⟩,(hh.pk [1])⟩)
theorem uD(B:World)(Fr:List HP)(bp bd:Nat)(s:Dev)(hv:Value)(ch:Int):
 ∀ w,Holds B (ax bd s::cu bp bd hv ch::Fr) w→Calls Tryz.prog 17 [ptr bp].toArray w (Ret B (fun rv H'=>∃ bw rest,rv= .slice (some ⟨bw,0,none⟩) s.n (s.n+rest.length)∧H'=row bw (tab s.n (fun i=>w64 (s.kept i))++rest) 24::ax bd s::cu bp bd hv ch::Fr) (fun _ _=>False)):=by
 refine ak func17 aa ntmps17 aa (ac (ab (kPa aa aa (ad (ac (ab (kPf jg isAgg53 aa aa aa aa (aE aa (ar call57 aa) (ze _ _ bd s) .free aa aa ?_))))))))
 rintro _ _ ⟨bw,rest,rfl,rfl⟩
 refine kPa aa aa (ad (au ?_))
 exact aq results17 aa (fun w hh=>⟨_,⟨bw,rest,rfl,rfl⟩,hh⟩)
theorem Bj{B:World}{Fr:List HP}{bd:Nat}{s:Dev}(hu:U64 s)(hn:s.n≤100000):∀ w,Holds B (ax bd s::Fr) w→Calls Tryz.prog 48 [ptr bd].toArray w (Ret B (fun rv H'=>∃ v e Z,rv= .tuple #[v,i64 e]∧aN v=true∧H'=Z::Fr∧((e≠0∧gi bd s e∧v= .pointer none∧Z=ax bd s)∨(∃ bh L' s',e=0∧gi bd s 0∧(bP bd s.readC.1 s).undo s= .ok L' s'∧v=ptr bh∧Z=grp [bZ bh (cz bd s.readC.1 s'),ax bd s']))) (fun ch H'=>∃ s',gi bd s 0∧(bP bd s.readC.1 s).undo s= .off s'∧ch=dh∧H'=ax bd s'::Fr)):=fun w hw=>by
 refine(qE B Fr bd s hu hn w hw).mono fun e w' h=> ?_
 cases e with
 | returned rv=>
   obtain⟨H',h1,h2⟩:=h
   rcases h1 with ⟨e,he,hE,rfl,rfl⟩ | ⟨bh,L',s',hE,hun,rfl,rfl⟩
   ·exact⟨_,⟨_,e,_,rfl,rfl,rfl,.inl ⟨he,hE,rfl,rfl⟩⟩,h2⟩
   ·exact⟨_,⟨_,0,_,rfl,rfl,rfl,.inr ⟨bh,L',s',rfl,hE,hun,rfl,rfl⟩⟩,Holds.ungrp (l:=[bZ bh _,ax bd s']) h2⟩
 | _=>exact h
theorem xk(B:World)(Fr:List HP)(bp bd:Nat)(s:Dev)(hv:Value)(ch:Int)(hu:U64 s)(hn:s.n≤100000):
 ∀ w,Holds B (ax bd s::cu bp bd hv ch::Fr) w→Calls Tryz.prog 64 [ptr bp].toArray w (Ret B (fun rv H'=>(∃ e,e≠0∧gi bd s e∧rv=i64 e∧H'=ax bd s::cu bp bd (.pointer none) ch::Fr)∨(∃ bh L' s',gi bd s 0∧(bP bd s.readC.1 s).undo s= .ok L' s'∧rv=i64 0∧H'=bZ bh (cz bd s.readC.1 s')::ax bd s'::cu bp bd (ptr bh) ch::Fr)) (fun c H'=>∃ s',gi bd s 0∧(bP bd s.readC.1 s).undo s= .off s'∧c=dh∧H'=ax bd s'::cu bp bd hv ch::Fr)):=by
 refine ak func64 aa ntmps64 aa (ac (ab (kPa aa aa (ad (ac (ab (kPf jg isAgg53 aa aa aa aa ?_)))))))
 refine aQ aa (ar call48 aa) (Bj hu hn) .free aa aa ?_ ?_
 rotate_left
 ·rintro _ _ ⟨s9,hE,hun,rfl,rfl⟩
  exact aX fun w hh=>⟨_,⟨s9,hE,hun,rfl,rfl⟩,hh⟩
 rintro _ _ ⟨v,e,Z,rfl,hv1,rfl,hor⟩
 refine kPm aa aa (kPv (az aa aa) aa (kPv (az aa aa) aa (kPa aa aa (kPa aa aa (ad (aj [4,3,2,0] rfl (ac (ab (kPm aa aa (kPm aa aa (kPv (aF aa) aa ?_)))))))))))
 refine kPv (aC (m:=_) kB aa aa) aa ?_
 refine kPs (aO sizeOf54 aa aa (by first | rfl | assumption) rfl) rfl ?_;refine ad ?_;refine ac ?_;refine ab ?_
 refine kPm aa aa (kPa aa aa (ad (aj [2] rfl (au ?_))))
 exact aq results64 aa (fun w hh=>by
 have h1:Holds B (Z::cu bp bd v ch::Fr) w:=hh
 rcases hor with ⟨he,hE,rfl,rfl⟩ | ⟨bh,L',s',rfl,hE,hun,rfl,rfl⟩
 ·exact⟨_,.inl ⟨e,he,hE,rfl,rfl⟩,h1⟩
 ·exact⟨_,.inr ⟨bh,L',s',hE,hun,rfl,rfl⟩,h1.grp⟩)
theorem A0(B:World)(Fr:List HP)(c2 bp bd:Nat)(hv:Value)(ch:Int)(i:Nat)(hi:i≤1000000):
 ∀ w,Holds B (row c2 [ptr bp] 26::cu bp bd hv ch::Fr) w→Calls Tryz.prog 66 [i64 i,ptr c2].toArray w (aZ B (row c2 [ptr bp] 26::cu bp bd hv ch::Fr) (.int .u8 (chc ch i))):=by
 refine ak func66 aa ntmps66 aa (ac (ab (kPa aa aa (ad (ac (ab (kPv (ag isAgg26 aa aa) aa (kPv (aF aa) aa (kPl tJ isAgg24 aa aa aa aa (kPm aa aa (kPv (et (c:=(i:Int)%32) aa aa (by decide) (lQ 32 (by omega))) aa ?_)))))))))))
 refine kPv (mi aa aa) aa (kPv (u4 aa aa (by omega) aa) aa (kPv (pz aa aa aa) aa (kPv (bY runUnderlying24 runUnderlying5 aa) aa (kPa aa aa (ad (aj [3] rfl (au ?_)))))))
 exact aq results66 aa (fun w hh=>⟨rfl,hh⟩)
theorem xp{B:World}{P:Program}{f:FuncId}{vs:Array Value}{v:Value}{H H2:List HP}(h1:∀ w,Holds B H w→Holds B H2 w)(h2:∀ w,Holds B H2 w→Holds B H w)(h:∀ w,Holds B H2 w→Calls P f vs w (aZ B H2 v)):∀ w,Holds B H w→Calls P f vs w (aZ B H v):=
 fun w hw=>(h w (h1 w hw)).mono fun _ _ ⟨a,b⟩=>⟨a,h2 _ b⟩
theorem CF(B:World)(Fr:List HP)(n c2 bp bd:Nat)(hv:Value)(ch:Int)(hn:n≤1000000):wY B (row c2 [ptr bp] 26::cu bp bd hv ch::Fr) 66 [ptr c2] n (chc ch) where
 enter:=call66
 pos:=BQ ch
 says:=fun H hF i hi=>by
  obtain⟨l,rfl⟩:=hF.ex
  have e:l++row c2 [ptr bp] 26::cu bp bd hv ch::Fr=l++([row c2 [ptr bp] 26,cu bp bd hv ch]++Fr):=rfl
  refine xp (H2:=row c2 [ptr bp] 26::cu bp bd hv ch::(l++Fr)) (fun w hh=> ?_) (fun w hh=> ?_) (A0 B _ c2 bp bd hv ch i (by omega))
  ·exact hh.perm (by rw[e, ←List.append_assoc, ←List.cons_append, ←List.cons_append];exact(List.perm_append_comm (l₁ :=l) (l₂ :=[row c2 [ptr bp] 26,cu bp bd hv ch])).append_right Fr)
  ·exact hh.perm (by rw[e, ←List.append_assoc, ←List.cons_append, ←List.cons_append];exact((List.perm_append_comm (l₁ :=l) (l₂ :=[row c2 [ptr bp] 26,cu bp bd hv ch])).append_right Fr).symm)
theorem yE(B:World)(H:List HP){ns:List Int}(hnb:∀ n∈ns,0≤n∧n<18446744073709551616)(i:Nat)(hi:i<ns.length):∀ w,Holds B H w→Calls Tryz.prog 62 [w64 ns[i]].toArray w (aZ B H (i64 (nA ns i))):=by
 have h:=qd B H ns[i] (hnb _ (List.getElem_mem hi))
 rw[nP hi] at h ⊢
 exact h
theorem y2{B:World}{Fr:List HP}{bp bd:Nat}{s:Dev}{hv:Value}{ch:Int}(hu:U64 s)(hn:s.n≤100000):∀ w,Holds B (ax bd s::cu bp bd hv ch::Fr) w→Calls Tryz.prog 64 [ptr bp].toArray w (Ret B (fun rv H'=>∃ e Z,rv=i64 e∧H'=Z::Fr∧gi bd s e∧((e≠0∧Z=grp [ax bd s,cu bp bd (.pointer none) ch])∨(∃ bh L' s',e=0∧(bP bd s.readC.1 s).undo s= .ok L' s'∧Z=grp [bZ bh (cz bd s.readC.1 s'),ax bd s',cu bp bd (ptr bh) ch]))) (fun c H'=>∃ s',gi bd s 0∧(bP bd s.readC.1 s).undo s= .off s'∧c=dh∧H'=ax bd s'::cu bp bd hv ch::Fr)):=fun w hw=>by
 refine(xk B Fr bp bd s hv ch hu hn w hw).mono fun e w' h=> ?_
 cases e with
 | returned rv=>
   obtain⟨H',h1,h2⟩:=h
   rcases h1 with ⟨e,he,hE,rfl,rfl⟩ | ⟨bh,L',s',hE,hun,rfl,rfl⟩
   ·exact⟨_,⟨e,_,rfl,rfl,hE,.inl ⟨he,rfl⟩⟩,Holds.ungrp (l:=[ax bd s,cu bp bd (.pointer none) ch]) h2⟩
   ·exact⟨_,⟨0,_,rfl,rfl,hE,.inr ⟨bh,L',s',rfl,hun,rfl⟩⟩,Holds.ungrp (l:=[bZ bh _,ax bd s',cu bp bd (ptr bh) ch]) h2⟩
 | _=>exact h
theorem AZ(B:World)(Fr:List HP)[cF Fr B](gl:GL B)(A:HP)(c2 c3 c5 bp:Nat)(h:HpS)(s:Dev)(ch:Int)(hu:U64 s)(hsn:s.n≤100000)(k:Int)(hk:0≤k∧k<18)(q:Option Addr)(cap:Nat)(ns:List Int)(hnb:∀ n∈ns,0≤n∧n<18446744073709551616)(hnl:ns.length≤1000)(hr:SlR B Fr (.slice q ns.length cap) (ns.map w64))(hq:∀ i,i<ns.length→∃ b off,q=some ⟨b,off,none⟩)(hkn:ns.length=kN k)(hoe:k=17→∀ e,gi h.bd s e→SmE e)(bh:Nat)(hW:db h s)(hb:(s.block h.c).2=0)(hX:k<14→∀ x h' s',h.does s x h' s' (cB k ns)→XB k x)(hXc:k=15→SmE (s.check h.c))(hXs:k=14→StB (h.stats s)):
 ∀ w,Holds B (A::bZ bh h::ax h.bd s::cu bp h.bd (ptr bh) ch::row c5 [str []] 9::row c3 [i64 k,.slice q ns.length cap] 33::row c2 [ptr bp] 26::Fr) w→Calls Tryz.prog 60 [ptr c3,ptr c2,ptr c5].toArray w (Ret B (fun _ H'=>∃ H1,(∃ l bh' ho' s' ch',AE h.bd (some h) s ch k ns l ho' s' ch'∧H1=HpO bh' ho'::ax h.bd s'::cu bp h.bd (hpv bh' ho') ch'::row c5 [str l] 9::row c3 [i64 k,.slice q ns.length cap] 33::row c2 [ptr bp] 26::Fr)∧∀ w,Holds B H' w→Holds B (A::H1) w) (fun c H'=>c=dh∧∃ H1,(∃ s' hv',uh h.bd (some h) s k ns s'∧H1=ax h.bd s'::cu bp h.bd hv' ch::row c5 [str []] 9::row c3 [i64 k,.slice q ns.length cap] 33::row c2 [ptr bp] 26::Fr)∧∀ w,Holds B H' w→Holds B (A::H1) w)):=by
 refine ak func60 aa ntmps60 aa (aI (ac (ab (kPl jO isAgg31 aa aa aa aa (kPv (am aa aa aa) aa (kPa aa aa (ad ?_)))))))
 refine aV aa (fun h6=> ?_) (fun h6=> ?_)
 ·have g6:k=16:=by simpa using h6
  have hn2:ns.length=2:=by rw[hkn,g6];rfl
  obtain⟨bq,oq,rfl⟩:=hq 0 (by omega)
  refine ac (cQ [0,1,2,3,4,5,6,7,8,9,10] [8,9,10] [0,1,2,3] [8,9] [row c2 [ptr bp] 26,cu bp h.bd (ptr bh) ch,row c3 [i64 k,.slice (some ⟨bq,oq,none⟩) ns.length cap] 33] Tryz.mixed (by kernel_rfl) ?_)
  refine an aa aa aa (ag isAgg26 aa aa) .free aa (an aa aa aa (aF aa) .free aa (an aa aa aa (aC (m:=_) jg aa aa) .free aa (an aa aa aa (ag isAgg53 aa aa) .free aa (aT aa aa aa (aC (m:=_) iL aa aa) .free aa (aT aa aa aa (ag isAgg22 aa aa) .free aa (aT aa aa aa (cC runUnderlying22 sizeOf24 aa aa (by decide) (by rw[hn2];decide)) .free aa ?_))))))
  refine aT aa aa aa (cf (v:=w64 (ns[0]'(by omega))) isAgg24 hr.up aa (by rw[List.getElem?_map];show ns[0]?.map w64=_;rw[List.getElem?_eq_getElem (by omega)];rfl)) .free aa ?_
  refine aS aa aa (ap aa (ar call62 aa) (yE B _ hnb 0 (by omega)) .free aa aa ?_)
  refine ad (cL (aS aa aa (aE aa (ar call56 aa) (jA _ _ _) .free aa aa ?_)))
  rintro _ _ ⟨pb,rfl,rfl⟩
  refine ad (cL (aS aa aa (aM [3,0] (aE aa (ar call61 aa) (qp B _ h.bd s pb ⟨nA ns 0,0⟩) .free aa aa ?_))))
  rintro _ _ rfl
  refine ad (cZ aa (cM (aj [0,1,2] rfl (ac (cH 7 Tryz.mixed (by kernel_rfl) (by kernel_rfl) ?_)))))
  refine kQv (ag isAgg26 aa aa) aa (kQv (aC (m:=_) iL aa aa) aa (kQv (ag isAgg22 aa aa) aa (kQv (cC runUnderlying22 sizeOf24 aa aa (by decide) (by rw[hn2];decide)) aa ?_)))
  refine kQv (cf (v:=w64 (ns[1]'(by omega))) isAgg24 hr.up aa (by rw[List.getElem?_map];show ns[1]?.map w64=_;rw[List.getElem?_eq_getElem (by omega)];rfl)) aa ?_
  refine kQv (aF aa) aa (kQv (aC (m:=_) tJ aa aa) aa (bM (kPs (aO sizeOf24 aa aa aa aa) aa (ad (aj [2] rfl (ab ?_))))))
  refine kPs (aO sizeOf9 aa aa (by first | rfl | assumption) rfl) rfl ?_;refine ad ?_
  exact cG results60 (fun w hw=>⟨_,⟨_,⟨_,bh,some h,_,_,.inl ⟨g6,rfl,rfl,⟨pb,rfl⟩,nP _⟩,rfl⟩,fun w hh=>hh⟩,(hw.pk [1,1])⟩)
 ·have g6:¬ k=16:=by simpa using h6
  refine ac (ab (kPl jO isAgg31 aa aa aa aa (kPv (am aa aa aa) aa (kPa aa aa (ad (aj [28,0,1,2] rfl ?_))))))
  refine aV aa (fun h28=> ?_) (fun h28=> ?_)
  ·have g28:k=17:=by simpa using h28
   refine ac (ab (kPv (ag isAgg26 aa aa) aa (kPv (aF aa) aa (kPv (aC (m:=_) kB aa aa) aa ?_))))
   refine kPs (aO sizeOf54 aa aa (by first | rfl | assumption) rfl) rfl ?_;refine ad ?_;refine ab ?_;refine kPv (ag isAgg26 aa aa) aa ?_;refine aM [2,2] ?_
   refine aQ aa (ar call64 aa) (y2 hu hsn) .free aa aa ?_ ?_
   rotate_left
   ·rintro _ _ ⟨s9,hE,hun,rfl,rfl⟩
    exact aX fun w hh=>⟨_,⟨rfl,_,⟨s9,_,.inl ⟨g28,hE,hun⟩,rfl⟩,fun w hh=>hh⟩,(hh.dp [3]).front 2 aa⟩
   rintro _ _ ⟨e9,Z,rfl,rfl,hE9,hor⟩
   refine ap aa (ar call63 aa) (ij B _ gl _ (hoe g28 _ hE9)) .free aa aa ?_
   refine kPs (aO sizeOf9 aa aa (by first | rfl | assumption) rfl) rfl ?_;refine ad ?_;refine aj [] rfl ?_
   exact cG results60 (fun w hw=>by
 have h1:Holds B (Z::A::row c5 [str (okS e9)] 9::row c3 [i64 k,.slice q ns.length cap] 33::row c2 [ptr bp] 26::Fr) w:=(hw.dp [2])
 rcases hor with ⟨he,rfl⟩ | ⟨bh9,L',s',rfl,hun,rfl⟩
 ·exact⟨_,⟨_,⟨_,0,none,_,_,.inr (.inl ⟨g28,rfl,.inl ⟨e9,he,hE9,rfl,rfl,rfl⟩⟩),rfl⟩,fun w hh=>hh⟩,((h1.grp.front 2 aa).unpr (p:=True) trivial).front 1 aa⟩
 ·exact⟨_,⟨_,⟨_,bh9,some _,_,_,.inr (.inl ⟨g28,rfl,.inr ⟨L',hE9,hun,rfl,rfl⟩⟩),rfl⟩,fun w hh=>hh⟩,h1.grp.front 3 aa⟩)
  ·have g28:¬ k=17:=by simpa using h28
   refine ac (ab (kPv (ag isAgg26 aa aa) aa (kPv (aF aa) aa (kPl kB isAgg54 aa aa aa aa (kPv (cV runUnderlying54 aa aa aa) aa (kPa aa aa (ad (bH aa (rfl) (ab (kPv (ag isAgg26 aa aa) aa (kPv (ah isAgg33 sizeOf33 aa aa) aa ?_)))))))))))
   refine aM [1,1,1] ?_
   refine aQ aa (ar call65 aa) (CE B _ gl bp bh h s ch hW hb k ⟨hk.1,by omega⟩ q cap ns hnb hnl hr.up hq hkn hX hXc hXs) .free aa aa ?_ ?_
   rotate_left
   ·rintro _ _ ⟨s9,hcu,rfl,rfl⟩
    exact aX fun w hh=>⟨_,⟨rfl,_,⟨s9,_,.inr ⟨hcu.1,h,rfl,hcu.2⟩,rfl⟩,fun w hh=>hh⟩,hh.front 2 aa⟩
   rintro _ _ ⟨l9,h9,s9,hpl,rfl,rfl⟩
   refine kPs (aO sizeOf9 aa aa (by first | rfl | assumption) rfl) rfl ?_;refine ad ?_;refine aj [] rfl ?_
   exact cG results60 (fun w hw=>⟨_,⟨_,⟨_,bh,some h9,_,_,.inr (.inr (.inr ⟨by omega,h,h9,rfl,rfl,rfl,hpl⟩)),rfl⟩,fun w hh=>hh⟩,(hw.pk [3])⟩)
theorem AX{B:World}{Fr H:List HP}{c2 c3 c5 bp bd:Nat}{ho:Option HpS}{s:Dev}{ch k:Int}{q:Option Addr}{cap:Nat}{ns:List Int}
 (h:∀ A w,Holds B (A::H) w→Calls Tryz.prog 60 [ptr c3,ptr c2,ptr c5].toArray w (Ret B (fun _ H'=>∃ H1,(∃ l bh' ho' s' ch',AE bd ho s ch k ns l ho' s' ch'∧H1=HpO bh' ho'::ax bd s'::cu bp bd (hpv bh' ho') ch'::row c5 [str l] 9::row c3 [i64 k,.slice q ns.length cap] 33::row c2 [ptr bp] 26::Fr)∧∀ w,Holds B H' w→Holds B (A::H1) w) (fun c H'=>c=dh∧∃ H1,(∃ s' hv',uh bd ho s k ns s'∧H1=ax bd s'::cu bp bd hv' ch::row c5 [str []] 9::row c3 [i64 k,.slice q ns.length cap] 33::row c2 [ptr bp] 26::Fr)∧∀ w,Holds B H' w→Holds B (A::H1) w))):
 ∀ w,Holds B H w→Calls Tryz.prog 59 [.func (.func 60) #[] #[ptr c3,ptr c2,ptr c5]].toArray w (Ret B (fun v H'=>∃ wh Z,v= .bool wh∧H'=Z::Fr∧((wh=true∧∃ l bh' ho' s' ch',AE bd ho s ch k ns l ho' s' ch'∧Z=grp [HpO bh' ho',ax bd s',cu bp bd (hpv bh' ho') ch',row c5 [str l] 9,row c3 [i64 k,.slice q ns.length cap] 33,row c2 [ptr bp] 26])∨(wh=false∧∃ s' hv',uh bd ho s k ns s'∧Z=grp [ax bd s',cu bp bd hv' ch,row c5 [str []] 9,row c3 [i64 k,.slice q ns.length cap] 33,row c2 [ptr bp] 26]))) (fun _ _=>False)):=fun w hw=>by
 refine(yR (cap:=[ptr c3,ptr c2,ptr c5]) (Φ:=fun H1=>(∃ l bh' ho' s' ch',AE bd ho s ch k ns l ho' s' ch'∧H1=HpO bh' ho'::ax bd s'::cu bp bd (hpv bh' ho') ch'::row c5 [str l] 9::row c3 [i64 k,.slice q ns.length cap] 33::row c2 [ptr bp] 26::Fr)) (Ψ:=fun H1=>(∃ s' hv',uh bd ho s k ns s'∧H1=ax bd s'::cu bp bd hv' ch::row c5 [str []] 9::row c3 [i64 k,.slice q ns.length cap] 33::row c2 [ptr bp] 26::Fr)) call60 h w hw).mono fun e w' g=> ?_
 cases e with
 | returned rv=>
   obtain⟨H',h1,h2⟩:=g
   rcases h1 with ⟨rfl,l,bh',ho',s',ch',g1,rfl⟩ | ⟨rfl,s',hv',g1,rfl⟩
   ·exact⟨_,⟨true,_,rfl,rfl,.inl ⟨rfl,l,bh',ho',s',ch',g1,rfl⟩⟩,Holds.ungrp (l:=[HpO bh' ho',ax bd s',cu bp bd (hpv bh' ho') ch',row c5 [str l] 9,row c3 [i64 k,.slice q ns.length cap] 33,row c2 [ptr bp] 26]) h2⟩
   ·exact⟨_,⟨false,_,rfl,rfl,.inr ⟨rfl,s',hv',g1,rfl⟩⟩,Holds.ungrp (l:=[ax bd s',cu bp bd hv' ch,row c5 [str []] 9,row c3 [i64 k,.slice q ns.length cap] 33,row c2 [ptr bp] 26]) h2⟩
 | _=>exact g
def DoR(Fr:List HP)(bp bd:Nat)(ho:Option HpS)(s:Dev)(ch k:Int)(ns:List Int)(rv:Value)(H':List HP):Prop:=
 (∃ l bh' ho' s' ch',AE bd ho s ch k ns l ho' s' ch'∧rv=str l∧H'=HpO bh' ho'::ax bd s'::cu bp bd (hpv bh' ho') ch'::Fr)∨
 (∃ s' pa,uh bd ho s k ns s'∧rv=str [111,102,102]∧H'=HpO 0 none::ax bd {s'.crash (chc ch) with pa:=pa,pow:=⟨-1,0⟩}::cu bp bd (.pointer none) ch::Fr)
theorem sG(B:World)(Fr:List HP)[cF Fr B](gl:GL B)(bp:Nat)(h:HpS)(s:Dev)(ch:Int)(hu:U64 s)(hsn:s.n≤100000)(k:Int)(hk:0≤k∧k<18)(q:Option Addr)(cap:Nat)(ns:List Int)(hnb:∀ n∈ns,0≤n∧n<18446744073709551616)(hnl:ns.length≤1000)(hr:SlR B Fr (.slice q ns.length cap) (ns.map w64))(hq:∀ i,i<ns.length→∃ b off,q=some ⟨b,off,none⟩)(hkn:ns.length=kN k)(hoe:k=17→∀ e,gi h.bd s e→SmE e)(bh:Nat)(hW:db h s)(hb:(s.block h.c).2=0)(hX:k<14→∀ x h' s',h.does s x h' s' (cB k ns)→XB k x)(hXc:k=15→SmE (s.check h.c))(hXs:k=14→StB (h.stats s)):
 ∀ w,Holds B (bZ bh h::ax h.bd s::cu bp h.bd (ptr bh) ch::Fr) w→Calls Tryz.prog 19 [ptr bp,.agg #[i64 k,.slice q ns.length cap]].toArray w (Ret B (DoR Fr bp h.bd (some h) s ch k ns) (fun _ _=>False)):=by
 refine ak func19 aa ntmps19 aa (ac (ab (kPb (dA aa aa) aa fun b2=>(kPb (aY aa) aa fun b3=>(kPa aa aa (ad (ac (ab (kPb (cm zeroValue9 aa) aa fun b5=> ?_)))))))))
 refine kPs (aO sizeOf9 aa aa (by first | rfl | assumption) rfl) rfl ?_;refine ad ?_;refine ac ?_;refine ab ?_;refine kPv (c7 aa aa) aa ?_
 refine aM [3,3,3,0,0,0] (aE aa (ar call59 aa) (AX (ho:=some h) (fun A w hw=>AZ B _ gl A b2 b3 b5 bp h s ch hu hsn k hk q cap ns hnb hnl hr.up hq hkn hoe bh hW hb hX hXc hXs w hw)) .free aa aa ?_)
 rintro _ _ ⟨wh,Z,rfl,rfl,hor⟩
 refine kPa aa aa (ad (ac (ac (ab (kPm aa aa (ad ?_))))))
 refine aV aa (fun h9=> ?_) (fun h9=> ?_)
 ·obtain rfl:wh=true:=by simpa using h9
  obtain⟨l9,bh9,ho9,s9,ch9,hon,rfl⟩:=(hor.resolve_right (fun g=>by cases g.1)).2
  refine aK (H':=HpO bh9 ho9::ax h.bd s9::cu bp h.bd (hpv bh9 ho9) ch9::row b5 [str l9] 9::row b3 [i64 k,.slice q ns.length cap] 33::row b2 [ptr bp] 26::_) (fun w hh=>hh.grp) (ac (ab (kPv (ag isAgg9 aa aa) aa (kPa aa aa (ad (aj [4,2] rfl (au ?_)))))))
  exact aq results19 aa (fun w hw=>⟨_,.inl ⟨l9,bh9,ho9,s9,ch9,hon,rfl,rfl⟩,(hw.dp [3,3,3])⟩)
 ·obtain rfl:wh=false:=by simpa using h9
  obtain⟨s9,hv9,hoff,rfl⟩:=(hor.resolve_left (fun g=>by cases g.1)).2
  refine aK (H':=ax h.bd s9::cu bp h.bd hv9 ch::row b5 [str []] 9::row b3 [i64 k,.slice q ns.length cap] 33::row b2 [ptr bp] 26::_) (fun w hh=>hh.grp) (kt h.bd fun hd1 hd2 hd3=>(aw (ac (ab (kPv (ag isAgg26 aa aa) aa (kPv (aF aa) aa (kPv (aC (m:=_) kB aa aa) aa ?_)))))))
  refine kPs (aO sizeOf54 aa aa (by first | rfl | assumption) rfl) rfl ?_
  refine ad (aj [4,2] rfl (ac (ab (kPv (ag isAgg26 aa aa) aa (kPv (aF aa) aa (kPl jg isAgg53 aa aa aa aa (kPv (c7 aa aa) aa (aM [0,3,0] (aE aa (ar call49 aa) (qs B _ h.bd s9 _ _ _ (CF B _ s9.n b2 bp h.bd _ ch (by omega))) .free aa aa ?_)))))))))
  rintro _ _ rfl
  refine ad (ac (cQ [0,1,2,3,4,5] [4,5] [0,1,2,3] [4] [row b2 [ptr bp] 26,cu bp h.bd (.pointer none) ch] Tryz.mixed (by kernel_rfl) ?_))
  refine an aa aa aa (ag isAgg26 aa aa) .free aa (an aa aa aa (aF aa) .free aa (an aa aa aa (aC (m:=_) jg aa aa) .free aa (an aa aa aa (ag isAgg53 aa aa) .free aa (aS aa aa (aE aa (ar call56 aa) (jA _ _ _) .free aa aa ?_)))))
  rintro _ _ ⟨pb,rfl,rfl⟩
  refine ad (cL (aS aa aa (aM [1,0] (aE aa (ar call61 aa) (qp B _ h.bd _ pb ⟨-1,0⟩) .free aa aa ?_))))
  rintro _ _ rfl
  refine ad (cZ aa (cM (aj [4] rfl (ac (ab (kPa aa aa (ad (au ?_))))))))
  exact aq results19 aa (fun w hw=>⟨_,.inr ⟨s9,pb,hoff,rfl,rfl⟩,Holds.unpr (p:=True) trivial (hw.dp [1,2,2])⟩)
def osz(m:Int→Int)(k:Int):Int:=(unp (m k)).1+1
def orf(m:Int→Int)(k:Int):Int:=(unp (m k)).2.1
theorem il(m:Int→Int)(k:Int):1≤osz m k∧osz m k≤65∧0≤orf m k∧orf m k+1≤osz m k:=by
 have:=p7 (m k);unfold osz orf;omega
def iB(m:Int→Int):Int→List Int→Int→Prop
 | a,[],e=>a=e
 | a,k::t,e=>k=a∧(unp (m a)).2.2=true∧iB m (a+osz m a) t e
theorem iB.le{m:Int→Int}:∀ {L:List Int} {a e:Int},iB m a L e→a≤e
 | [],a,e,h=>Int.le_of_eq h
 | k::t,a,e,h=>by have:=h.2.2.le;have:=il m a;omega
theorem iB.mem{m:Int→Int}:∀ {L:List Int} {a e k:Int},iB m a L e→k∈L→a≤k∧k+osz m k≤e∧(unp (m k)).2.2=true
 | [],_,_,_,_,h=>by cases h
 | x::t,a,e,k,h,hk=>by
   obtain⟨rfl,h2,h3⟩:=h
   have:=il m x
   rcases List.mem_cons.1 hk with rfl | hk
   ·exact⟨Int.le_refl _,h3.le,h2⟩
   ·have:=iB.mem h3 hk;exact⟨by omega,this.2⟩
theorem iB.disj{m:Int→Int}:∀ {L:List Int} {a e k k':Int},iB m a L e→k∈L→k'∈L→k<k'→k+osz m k≤k'
 | [],_,_,_,_,_,h,_,_=>by cases h
 | x::t,a,e,k,k',h,hk,hk',hlt=>by
   obtain⟨rfl,h2,h3⟩:=h
   rcases List.mem_cons.1 hk with e1 | hk2
   ·rcases List.mem_cons.1 hk' with e2 | hk3
    ·omega
    ·subst e1;exact(iB.mem h3 hk3).1
   ·rcases List.mem_cons.1 hk' with e2 | hk3
    ·have:=(iB.mem h3 hk2).1;have:=il m x;omega
    ·exact iB.disj h3 hk2 hk3 hlt
structure pQ(c:Cfg)(b:Blk)(m:Int→Int)(L:List Int):Prop where
 tile:iB m (b.place c 0) L (b.place c b.used)
 names:∀ k∈L,∀ i,0≤i→i<orf m k→m (k+1+i)=0∨m (k+1+i)∈L
 roots:∀ w∈b.rts,w=0∨w∈L
inductive Rch (m:Int→Int) (ws:List Int):Int→Prop
 | word {w:Int}:w∈ws→w≠0→Rch m ws w
 | name {k i:Int}:Rch m ws k→0≤i→i<orf m k→m (k+1+i)≠0→Rch m ws (m (k+1+i))
theorem CT{c:Cfg}(hc:bx c){b:Blk}(hb:fU c b){m:Int→Int}{L:List Int}(h:pQ c b m L){k:Int}(hk:k∈L):c.frm b.act≤k∧k+osz m k≤c.frm b.act+b.used∧24<k∧k<20000:=by
 have h1:=h.tile.mem hk
 have h2:=hb.act;have h3:=hb.used
 have h4:=iI hc (k:=b.act) (by omega)
 have:=il m k;have:=hc.s1
 have h5:(2 - b.act)*c.space=c.space∨(2 - b.act)*c.space=2*c.space:=by
  rcases (by omega:b.act=0∨b.act=1) with e | e<;>rw[e]
  ·exact .inr (by omega)
  ·exact .inl (by omega)
 unfold Blk.place at h1
 omega
theorem rB{c:Cfg}(hc:bx c){b:Blk}(hb:fU c b){s:Dev}{L:List Int}(h:pQ c b s.load L){k:Int}(hk:k∈L):s.objOf c b k=((osz s.load k - 1,orf s.load k,k),0)∧b.has c k=true:=by
 have h1:=h.tile.mem hk
 have h2:=CT hc hb h hk
 have h5:=il s.load k
 have hh:b.has c k=true:=by unfold Blk.has;simp;omega
 refine⟨?_,hh⟩
 unfold Dev.objOf
 rw[if_neg (by rw[hh];simp;omega),if_neg (by rw[h1.2.2];unfold osz at h1;simp;omega)]
 unfold osz orf
 simp
def Dn(m:Int→Int):Int→List (Int×Int)→Int→Prop
 | a,[],e=>a=e
 | a,q::t,e=>q.2=a∧Dn m (a+osz m q.1) t e
def tr(W:List (Int×Int))(w:Int):Int:=(bG W w).getD 0
structure CI(c:Cfg)(b:Blk)(m0:Int→Int)(L:List Int)(lo:Int)(ws:List Int)(S:bC)(m:Int→Int)(p:Int):Prop where
 cc:S.c=c
 bb:S.b=b
 tt:S.to_=lo
 nd:(S.went.map Prod.fst).Nodup
 inL:∀ q∈S.went,q.1∈L
 offs:Dn m0 lo S.went S.free
 out:∀ j,j<lo∨S.free≤j→m j=m0 j
 hd:∀ q∈S.went,m q.2=m0 q.1
 cp:∀ q∈S.went,∀ j,0≤j→j+1<osz m0 q.1→m (q.2+1+j)=if j<orf m0 q.1∧q.2+1+j<p then tr S.went (m0 (q.1+1+j)) else m0 (q.1+1+j)
 dn:∀ q∈S.went,∀ j,0≤j→j<orf m0 q.1→q.2+1+j<p→m0 (q.1+1+j)=0∨m0 (q.1+1+j)∈S.went.map Prod.fst
 rc:∀ q∈S.went,Rch m0 ws q.1
 u:∀ x,0≤m x∧m x<18446744073709551616
section
variable {c:Cfg} {b:Blk} {m0 m:Int→Int} {L ws:List Int} {lo hi p:Int} {S:bC} {J:Dev→Prop} {s:Dev}
end
section
variable {c:Cfg} {b:Blk} {m0 m:Int→Int} {L ws:List Int} {lo hi p:Int} {S:bC} {J:Dev→Prop} {s:Dev}
structure SI(c:Cfg)(b:Blk)(m0:Int→Int)(L:List Int)(lo:Int)(ws:List Int)(S:bC)(s:Dev):Prop where
 ci:CI c b m0 L lo ws S s.load S.scan
 bd:∃ W V,S.went=W++V∧Dn m0 lo W S.scan
 td:∃ pre,ws=pre++S.todo∧∀ w∈pre,w=0∨w∈S.went.map Prod.fst
 dn:S.done=false
def Dur(lo hi:Int)(s:Dev):Prop:=∀ i:Nat,lo≤i→i<hi→s.kept i=s.now i∧s.q (i / 8)=none
structure DI(c:Cfg)(b:Blk)(m0:Int→Int)(L:List Int)(lo:Int)(ws:List Int)(S:bC)(s:Dev):Prop where
 ci:CI c b m0 L lo ws S s.load S.free
 ws:∀ w∈ws,w=0∨w∈S.went.map Prod.fst
 dur:Dur lo S.free s
end
theorem y7:((List.range 65).all fun w=>(List.range (w+1)).all fun r=>unp (eA w r)==((w:Int),(r:Int),true))=true:=by kernel_rfl
theorem r6{w r:Int}(h:0≤r∧r≤w∧w≤64):unp (eA w r)=(w,r,true):=by
 have h1:=y7
 rw[List.all_eq_true] at h1
 have h2:=h1 w.toNat (List.mem_range.2 (by omega))
 rw[List.all_eq_true] at h2
 have h3:=h2 r.toNat (List.mem_range.2 (by omega))
 rw[beq_iff_eq,Int.toNat_of_nonneg (by omega),Int.toNat_of_nonneg (by omega)] at h3
 exact h3
theorem iB.congr{m m':Int→Int}:∀ {L:List Int} {a e:Int},iB m a L e→(∀ k∈L,m' k=m k)→iB m' a L e
 | [],_,_,h,_=>h
 | x::t,a,e,h,hm=>by
   obtain⟨rfl,h2,h3⟩:=h
   have e1:=hm x (List.mem_cons_self ..)
   refine⟨rfl,by rw[e1];exact h2,?_⟩
   rw[show osz m' x=osz m x by unfold osz;rw[e1]]
   exact h3.congr fun k hk=>hm k (List.mem_cons_of_mem _ hk)
theorem iB.snoc{m:Int→Int}:∀ {L:List Int} {a e:Int},iB m a L e→(unp (m e)).2.2=true→iB m a (L++[e]) (e+osz m e)
 | [],a,e,h,h1=>by cases h;exact⟨rfl,h1,rfl⟩
 | x::t,a,e,h,h1=>⟨h.1,h.2.1,h.2.2.snoc h1⟩
structure HL(c:Cfg)(N:Nat)(k0:Nat→Int)(s:Dev):Prop where
 u:U64 s
 lim:s.pow.lim<0
 n:s.n=N
 kept:s.kept=k0
 q:s.q=fun _=>none
 low:∀ x:Nat,(x:Int)<c.active→s.now x=k0 x
structure Fi(c:Cfg)(N:Nat)(k0:Nat→Int)(s:Dev)(out:List Int)(u:Int):Prop where
 h:HL c N k0 s
 act:s.load c.active=0
 used:s.load (c.active+1)=u
 u0:0≤u∧u≤c.space
 tile:iB s.load (c.frm 0) out (c.frm 0+u)
 names:∀ k∈out,∀ i,0≤i→i<orf s.load k→s.load (k+1+i)=0∨s.load (k+1+i)∈out
 roots:∀ i:Nat,(i:Int)<c.roots→s.load (c.root i)=0∨s.load (c.root i)∈out
theorem Eb{c:Cfg}(hc:bx c){N:Nat}(hN:(N:Int)=c.words):c.frm 0+c.space≤N∧c.active+2+c.roots≤c.frm 0∧24<c.active∧c.frm 0+c.space≤20000:=by
 have hfb:=iI hc (k:=0) (by omega)
 have h1:=hc.act
 have:=hc.s1;have:=hc.r1;have:=hc.l1
 omega
theorem CZ{c:Cfg}(hc:bx c){N:Nat}(hN:(N:Int)=c.words){s:Dev}(h:Fmt c N s)(hu:U64 s):Fi c N s.kept s [] 0:=by
 have hf0:=Eb hc hN
 have hr:=hc.r1
 have hs:=hc.s1
 have hb:∀ x:Int,c.active≤x→x<c.root c.roots→s.load x=0:=fun x h1 h2=>by
  simp only[Cfg.root] at h2
  unfold Dev.load
  split
  ·exact h.st.block x.toNat (by omega) (by simp only[Cfg.root];omega)
  ·rfl
 refine⟨⟨hu,h.lim,h.n,rfl,h.calm.q,fun x _=>by rw[h.calm.kept]⟩,hb _ (by omega) (by simp only[Cfg.root];omega),hb _ (by omega) (by simp only[Cfg.root];omega),by omega,by show c.frm 0=c.frm 0+0;omega,fun _ h=>(by cases h),fun i hi=> .inl (hb _ (by simp only[Cfg.root];omega) (by simp only[Cfg.root];omega))⟩
structure kK(s:Dev):Prop where
 lim:s.pow.lim<0
 q:s.q=fun _=>none
theorem DL{s:Dev}{i:Nat}(hq:s.q=fun _=>none):(s.up.fl i).up.fe.now=s.now∧(s.up.fl i).up.fe.q=(fun _=>none)∧(s.up.fl i).up.fe.n=s.n∧∀ x,(s.up.fl i).up.fe.kept x=if x / 8=i / 8 then s.now x else s.kept x:=by
 refine⟨rfl,rfl,rfl,fun x=> ?_⟩
 have h:=oK s i x
 rw[show s.pk x=s.kept x by simp only[Dev.pk,eM,hq]] at h
 exact h
@[irreducible] def Dev.sv (s:Dev) (i:Nat) (v:Int):Dev:=s.up.st i v
@[irreducible] def Dev.ff (s:Dev) (i:Nat):Dev:=(s.up.fl i).up.fe
theorem kL{α:Type}{s:Dev}{i v:Int}{k:Int→Dev→Out α}(h:s.pow.lim<0)(hi:0≤i∧i<s.n):(s.store i v).then k=k 0 (s.sv i.toNat v):=by rw[lM h hi,aU];unfold Dev.sv;rfl
theorem rD{α:Type}{s:Dev}{i:Int}{k:Unit→Dev→Out α}(h:s.pow.lim<0)(hi:0≤i∧i<s.n):((s.flush i).then fun _ s=>s.fence.then k)=k () (s.ff i.toNat):=by rw[pq h hi,aU,l5 (s:=s.up.fl i.toNat) h,aU];unfold Dev.ff;rfl
theorem go(s:Dev)(i:Nat)(v:Int):(s.sv i v).pow.lim=s.pow.lim:=by unfold Dev.sv;rfl
theorem lL(s:Dev)(i:Nat)(v:Int):(s.sv i v).n=s.n:=by unfold Dev.sv;rfl
theorem xa(s:Dev)(i:Nat)(v:Int):(s.sv i v).q=s.q:=by unfold Dev.sv;rfl
theorem eh(s:Dev)(i:Nat)(v:Int):(s.sv i v).now=upd s.now i v:=by unfold Dev.sv;rfl
theorem kM(s:Dev)(i:Nat)(v:Int):(s.sv i v).kept=s.kept:=by unfold Dev.sv;rfl
theorem rF(s:Dev)(i:Nat):(s.ff i).pow.lim=s.pow.lim:=by unfold Dev.ff;rfl
theorem Bz(s:Dev)(i:Nat):(s.ff i).n=s.n:=by unfold Dev.ff;rfl
theorem C0(s:Dev)(i:Nat):(s.ff i).q=fun _=>none:=by unfold Dev.ff;rfl
theorem rE(s:Dev)(i:Nat):(s.ff i).now=s.now:=by unfold Dev.ff;rfl
theorem rG{s:Dev}{i:Nat}(hq:s.q=fun _=>none)(x:Nat):(s.ff i).kept x=if x / 8=i / 8 then s.now x else s.kept x:=by unfold Dev.ff;exact(DL hq).2.2.2 x
theorem yf{L:bT}{s:Dev}{i:Int}(hL:dR L)(hs:kK s)(hi:0≤i∧i<s.n)(hc:L.c.active≤s.n)(hn:L.n<L.c.log){r:Nat}(hr:(r:Int)=L.c.record L.n):
 ∃ s',L.append s i= .ok (0,{L with n:=L.n+1}) s'∧kK s'∧s'.n=s.n∧s'.now=upd (upd (upd s.now (r+1) i) (r+2) (upd s.now (r+1) i i.toNat)) r (gp L.epoch L.n)∧∀ x,s'.kept x=if x / 8=r / 8 then s'.now x else s.kept x:=by
 have hact:=hL.c.act
 have h0:=hL.n1
 have hr':(r:Int)=16+4*L.n:=hr
 have b0:0≤L.c.record L.n∧L.c.record L.n+3<s.n:=by rw[←hr];omega
 have e0:(L.c.record L.n).toNat=r:=by omega
 have e1:(L.c.record L.n+1).toNat=r+1:=by omega
 have e2:(L.c.record L.n+2).toNat=r+2:=by omega
 have hl:=hs.lim
 have hld:∀ v,(s.sv (r+1) v).load i=upd s.now (r+1) v i.toNat:=fun v=>by
  have:(s.sv (r+1) v).has i=true:=by simp[Dev.has,hi,lL]
  simp only[Dev.load,this,if_true,eh]
 unfold bT.append
 rw[if_neg (by omega),if_neg (by omega)]
 rw[kL hl (by omega),e1,hld]
 rw[kL (by rw[go];exact hl) (by rw[lL];omega),e2]
 rw[rD (by rw[go,go];exact hl) (by rw[lL,lL];omega),e0]
 rw[kL (by rw[rF,go,go];exact hl) (by rw[Bz,lL,lL];omega),e0]
 rw[rD (by rw[go,rF,go,go];exact hl) (by rw[lL,Bz,lL,lL];omega),e0]
 refine⟨_,rfl,⟨by simp only[rF,go];exact hl,by rw[C0]⟩,by simp only[Bz,lL],by simp only[rE,eh],fun x=> ?_⟩
 rw[rG (by rw[xa,C0]),rE,kM,rG (by rw[xa,xa,hs.q]),kM,kM]
 split<;>rfl
@[irreducible] def Dev.fq (s:Dev) (i:Nat):Dev:=s.up.fl i
@[irreducible] def Dev.fn (s:Dev):Dev:=s.up.fe
theorem Bu{α:Type}{s:Dev}{i:Int}{k:Int→Dev→Out α}(h:s.pow.lim<0)(hi:0≤i∧i<s.n):(s.flush i).then k=k 0 (s.fq i.toNat):=by rw[pq h hi,aU];unfold Dev.fq;rfl
theorem Bv{α:Type}{s:Dev}{k:Unit→Dev→Out α}(h:s.pow.lim<0):s.fence.then k=k () s.fn:=by rw[l5 h,aU];unfold Dev.fn;rfl
theorem CX(s:Dev)(i:Nat):(s.fq i).pow.lim=s.pow.lim:=by unfold Dev.fq;rfl
theorem DG(s:Dev)(i:Nat):(s.fq i).n=s.n:=by unfold Dev.fq;rfl
theorem zM(s:Dev)(i:Nat):(s.fq i).now=s.now:=by unfold Dev.fq;rfl
theorem DF(s:Dev)(i x:Nat):(s.fq i).pk x=if x / 8=i / 8 then s.now x else s.pk x:=by unfold Dev.fq;exact oK s i x
theorem CY(s:Dev):s.fn.pow.lim=s.pow.lim:=by unfold Dev.fn;rfl
theorem DH(s:Dev):s.fn.n=s.n:=by unfold Dev.fn;rfl
theorem zP(s:Dev):s.fn.now=s.now:=by unfold Dev.fn;rfl
theorem Ec(s:Dev):s.fn.q=fun _=>none:=by unfold Dev.fn;rfl
theorem Bw(s:Dev)(x:Nat):s.fn.kept x=s.pk x:=by unfold Dev.fn;rfl
theorem yz{s:Dev}(h:s.q=fun _=>none)(x:Nat):s.pk x=s.kept x:=by simp only[Dev.pk,eM,h]
theorem kj{s:Dev}{i:Int}{k:Nat}(h:(k:Int)=i)(hk:k<s.n):s.load i=s.now k:=by
 subst h
 have:s.has (k:Int)=true:=by simp[Dev.has,hk]
 simp only[Dev.load,this,if_true,Int.toNat_natCast]
theorem yq{L:bT}{s:Dev}(hl:s.pow.lim<0)(hn:16≤s.n)(h0:L.n≠0):L.truncate s= .ok {L with epoch:=(L.epoch+1)%4294967296,n:=0} ((s.sv 8 ((L.epoch+1)%4294967296)).ff 8):=by
 unfold bT.truncate
 rw[if_neg h0,kL hl (by omega)]
 rw[rD (by rw[go];exact hl) (by rw[lL];omega)]
 rfl
theorem ny:∀ (ks:List Int) (s:Dev),s.pow.lim<0→(∀ k∈ks,0≤k∧k*8<s.n)→
 ∃ s',dK ks s= .ok () s'∧s'.pow.lim<0∧s'.n=s.n∧s'.now=s.now∧∀ x,s'.pk x=if ((x / 8:Nat):Int)∈ks then s.now x else s.pk x
 | [],s,hl,_=>⟨s,rfl,hl,rfl,rfl,fun x=>by rw[if_neg (by simp)]⟩
 | k::ks,s,hl,hk=>by
   obtain⟨k1,k2⟩:=hk k (by simp)
   have e:dK (k::ks) s=dK ks (s.fq (k*8).toNat):=by
    simp only[dK]
    rw[Bu hl (by omega)]
   rw[e]
   obtain⟨s',e1,e2,e3,e4,e5⟩:=ny ks (s.fq (k*8).toNat) (by rw[CX];exact hl) (fun j hj=>by rw[DG];exact hk j (by simp[hj]))
   refine⟨s',e1,e2,by rw[e3,DG],by rw[e4,zM],fun x=> ?_⟩
   rw[e5,zM,DF]
   by_cases h1:((x / 8:Nat):Int)∈ks
   ·rw[if_pos h1,if_pos (List.mem_cons_of_mem _ h1)]
   ·rw[if_neg h1]
    by_cases h2:x / 8=(k*8).toNat / 8
    ·rw[if_pos h2,if_pos]
     have:((x / 8:Nat):Int)=k:=by omega
     rw[this];exact List.mem_cons_self
    ·rw[if_neg h2,if_neg]
     have:((x / 8:Nat):Int)≠k:=by omega
     exact fun h=>(List.mem_cons.1 h).elim this h1
def bT.shut(L:bT):bT:=if L.n=0 then L else {L with epoch:=(L.epoch+1)%4294967296,n:=0}
def bT.shutNow(L:bT)(f:Nat→Int):Nat→Int:=if L.n=0 then f else upd f 8 ((L.epoch+1)%4294967296)
theorem ng{L:bT}{s:Dev}(hs:kK s)(hn:16≤s.n):∃ s',L.truncate s= .ok L.shut s'∧kK s'∧s'.n=s.n∧s'.now=L.shutNow s.now∧(s.kept=s.now→s'.kept=s'.now):=by
 by_cases h0:L.n=0
 ·refine⟨s,?_,hs,rfl,?_,fun h=>h⟩
  ·unfold bT.truncate bT.shut;rw[if_pos h0,if_pos h0]
  ·unfold bT.shutNow;rw[if_pos h0]
 ·refine⟨_,yq hs.lim hn h0 |>.trans (by unfold bT.shut;rw[if_neg h0]),⟨by rw[rF,go];exact hs.lim,C0 _ _⟩,by rw[Bz,lL],by unfold bT.shutNow;rw[if_neg h0,rE,eh],fun hk=>funext fun x=> ?_⟩
  rw[rG (by rw[xa,hs.q]),rE,eh,kM]
  by_cases c:x / 8=8 / 8
  ·rw[if_pos c]
  ·rw[if_neg c,hk];simp only[upd];rw[if_neg (by omega)]
theorem rP{S:bD}{s:Dev}(hs:kK s)(hn:16≤s.n)(hd:∀ k∈S.dirty.map Prod.fst,0≤k∧k*8<s.n):
 ∃ s',S.commit s= .ok {S with L:=S.L.shut} s'∧kK s'∧s'.n=s.n∧s'.now=S.L.shutNow s.now∧((∀ x,((x / 8:Nat):Int)∉S.dirty.map Prod.fst→s.kept x=s.now x)→s'.kept=s'.now):=by
 have hmem:∀ k,k∈cq (S.dirty.map Prod.fst)↔k∈S.dirty.map Prod.fst:=fun k=>List.mem_mergeSort
 obtain⟨s1,e1,e2,e3,e4,e5⟩:=ny (cq (S.dirty.map Prod.fst)) s hs.lim (fun k h=>hd k ((hmem k).1 h))
 have hpk:(∀ x,((x / 8:Nat):Int)∉S.dirty.map Prod.fst→s.kept x=s.now x)→∀ x,s1.pk x=s.now x:=fun hk x=>by
  rw[e5]
  by_cases c:((x / 8:Nat):Int)∈S.dirty.map Prod.fst
  ·rw[if_pos ((hmem _).2 c)]
  ·rw[if_neg (fun h=>c ((hmem _).1 h)),yz hs.q,hk x c]
 unfold bD.commit
 rw[e1,aU]
 by_cases c:0<S.dirty.length
 ·rw[if_pos c,Bv e2]
  obtain⟨s',f1,f2,f4,f5,f6⟩:=ng (L:=S.L) (s:=s1.fn) ⟨by rw[CY];exact e2,Ec _⟩ (by rw[DH,e3];exact hn)
  exact⟨s',by rw[f1,aU],f2,by rw[f4,DH,e3],by rw[f5,zP,e4],fun hk=>f6 (funext fun x=>by rw[Bw,zP,hpk hk,e4])⟩
 ·have hd0:S.dirty=[]:=List.length_eq_zero_iff.1 (by omega)
  have hs1:s1=s:=by
   rw[hd0] at e1
   simp[cq,dK] at e1
   exact e1.symm
  subst hs1
  rw[if_neg c,aU]
  obtain⟨s',f1,f2,f4,f5,f6⟩:=ng (L:=S.L) (s:=s1) hs hn
  exact⟨s',by rw[f1,aU],f2,f4,f5,fun hk=>f6 (funext fun x=>hk x (by rw[hd0];simp))⟩
def ug(L:bT)(s:Dev):Prop:=s.now 8=L.epoch∧s.now 16≠gp L.epoch 0
structure In(kp:Prop)(c:Cfg)(N:Nat)(old:Nat→Int)(js:List Nat)(S:bD)(s:Dev):Prop where
 still:kK s
 n:s.n=N
 hN:(N:Int)=c.words
 hc:S.L.c=c
 logw:dR S.L
 ln:S.L.n=js.length
 seen:∀ i:Int,(bG S.seen i).isSome=true↔∃ j∈js,(j:Int)=i
 recs:∀ k (h:k<js.length),s.now (16+4*k+1)=js[k]∧s.now (16+4*k+2)=old js[k]∧c.active≤js[k]∧js[k]<N
 same:∀ x,x∉js→c.active≤x→¬(S.ff≤x∧(x:Int)<S.ft)→s.now x=old x
 keep:kp→∀ x,((x / 8:Nat):Int)∉S.dirty.map Prod.fst→s.kept x=s.now x
 dirty:∀ k∈S.dirty.map Prod.fst,c.active≤k*8∧k*8<N
 nd:(S.dirty.map Prod.fst).Nodup
 out:∀ j∈js,(j:Int)<S.ff∨S.ft≤j
 jnd:js.Nodup
 ep:s.now 8=S.L.epoch
 st:(js=[]∧s.now 16≠gp S.L.epoch 0)∨(js≠[]∧s.now 16=gp S.L.epoch 0)
theorem zv{kp:Prop}{c:Cfg}{N:Nat}{S:bD}{s:Dev}{f t:Int}(hs:kK s)(hk:kp→s.kept=s.now)(hn:s.n=N)(hN:(N:Int)=c.words)(hc:S.L.c=c)(hL:dR S.L)(h0:S.L.n=0)(h1:ug S.L s):In kp c N s.now [] {S with ff:=f,ft:=t,seen:=[],dirty:=[]} s:=
 ⟨hs,hn,hN,hc,hL,h0,fun i=>by simp[bG],fun k h=>absurd h (Nat.not_lt_zero _),fun _ _ _ _=>rfl,fun h x _=>by rw[hk h],fun k h=>by simp at h,by simp,fun j h=>by simp at h,by simp,h1.1,.inl ⟨rfl,h1.2⟩⟩
theorem uq{L:bT}{f:Nat→Int}{s:Dev}(hL:dR L)(he:f 8=L.epoch)(hs:(L.n=0∧f 16≠gp L.epoch 0)∨(L.n≠0∧f 16=gp L.epoch 0))(hn:s.now=L.shutNow f):ug L.shut s:=by
 have e1:=hL.e1
 have e2:=hL.e2
 unfold ug
 rw[hn]
 unfold bT.shutNow bT.shut
 by_cases h0:L.n=0
 ·rw[if_pos h0,if_pos h0]
  rcases hs with ⟨_,h⟩ | ⟨h,_⟩
  ·exact⟨he,h⟩
  ·exact absurd h0 h
 ·rw[if_neg h0,if_neg h0]
  rcases hs with ⟨h,_⟩ | ⟨_,h⟩
  ·exact absurd h h0
  ·refine⟨by simp only[upd,if_true],?_⟩
   simp only[upd]
   rw[if_neg (by decide),h]
   simp only[gp]
   omega
theorem xL{kp:Prop}{c:Cfg}{N:Nat}{old:Nat→Int}{js:List Nat}{S:bD}{s:Dev}(h:In kp c N old js S s)(hc:bx c):
 ∃ s',S.commit s= .ok {S with L:=S.L.shut} s'∧kK s'∧s'.n=N∧s'.now=S.L.shutNow s.now∧(kp→AH s')∧ug S.L.shut s':=by
 have hw:=words_b hc
 have hact:=hc.act
 have:=h.hN
 have:=hc.r1
 have:=hc.l1
 obtain⟨s',e1,e2,e4,e5,e6⟩:=rP (S:=S) h.still (by rw[h.n];omega) (fun k hk=>by have:=h.dirty k hk;rw[h.n];omega)
 refine⟨s',e1,e2,by rw[e4,h.n],e5,fun hk=>⟨e6 (h.keep hk),e2.q⟩,uq h.logw h.ep ?_ e5⟩
 rcases h.st with ⟨h1,h2⟩ | ⟨h1,h2⟩
 ·exact .inl ⟨by rw[h.ln,h1];rfl,h2⟩
 ·exact .inr ⟨by rw[h.ln];have:=List.length_pos_iff.2 h1;omega,h2⟩
theorem ib{α:Type}{k k':Int}{a:α}:∀ {l:List (Int×α)},k'∈(mset l k a).map Prod.fst↔k'=k∨k'∈l.map Prod.fst
 | []=>by simp[mset]
 | p::l=>by
   simp only[mset]
   split
   ·rename_i h
    simp only[List.map_cons,List.mem_cons,h]
    constructor
    ·rintro(h1 | h1)
     ·exact .inl h1
     ·exact .inr (.inr h1)
    ·rintro(h1 | h1 | h1)
     ·exact .inl h1
     ·exact .inl h1
     ·exact .inr h1
   ·simp only[List.map_cons,List.mem_cons,ib (l:=l)]
    constructor
    ·rintro(h1 | h1 | h1)
     ·exact .inr (.inl h1)
     ·exact .inl h1
     ·exact .inr (.inr h1)
    ·rintro(h1 | h1 | h1)
     ·exact .inr (.inl h1)
     ·exact .inl h1
     ·exact .inr (.inr h1)
theorem kf{α:Type}{k:Int}{a:α}:∀ {l:List (Int×α)},(l.map Prod.fst).Nodup→((mset l k a).map Prod.fst).Nodup
 | [],_=>by simp[mset]
 | p::l,h=>by
   rw[List.map_cons,List.nodup_cons] at h
   simp only[mset]
   split
   ·rename_i e;subst e;rw[List.map_cons,List.nodup_cons];exact h
   ·rename_i e
    rw[List.map_cons,List.nodup_cons]
    refine⟨fun hm=> ?_,kf h.2⟩
    rcases ib.1 hm with h1 | h1
    ·exact e h1
    ·exact h.1 h1
theorem zx{kp:Prop}{c:Cfg}{N:Nat}{old:Nat→Int}{js:List Nat}{S:bD}{s:Dev}(h:In kp c N old js S s)(hc:bx c){i:Nat}(v:Int)(hi:c.active≤i∧i<N)(hno:i∈js∨(S.ff≤i∧(i:Int)<S.ft)):
 S.store s i v= .ok (0,{S with dirty:=mset S.dirty ((i:Int) / 8) ()}) (s.sv i v)∧In kp c N old js {S with dirty:=mset S.dirty ((i:Int) / 8) ()} (s.sv i v):=by
 have hact:=hc.act
 have hn:=h.n
 refine⟨?_,⟨⟨by rw[go];exact h.still.lim,by rw[xa];exact h.still.q⟩,by rw[lL,hn],h.hN,h.hc,h.logw,h.ln,h.seen,fun k hk=> ?_,fun x hx hx1 hx2=> ?_,fun hkp x hx=> ?_,fun k hk=> ?_,kf h.nd,h.out,h.jnd,?_,?_⟩⟩
 ·rw[jt (by rw[h.hc];omega),kL h.still.lim (by omega)]
  ·rfl
  ·rintro⟨q1,q2⟩
   rcases hno with h1 | h1
   ·rw[(h.seen i).2 ⟨i,h1,rfl⟩] at q1;cases q1
   ·omega
 ·obtain⟨r1,r2,r3,r4⟩:=h.recs k hk
  have hkl:(k:Int)<c.log:=by
   have:=h.logw.n2
   rw[h.hc,h.ln] at this;omega
  rw[eh]
  simp only[upd]
  rw[if_neg (by omega),if_neg (by omega)]
  exact⟨r1,r2,r3,r4⟩
 ·rw[eh]
  simp only[upd]
  rw[if_neg]
  ·exact h.same x hx hx1 hx2
  ·intro e;subst e
   rcases hno with h1 | h1
   ·exact hx h1
   ·exact hx2 h1
 ·rw[ib] at hx
  rw[eh,kM]
  simp only[upd]
  rw[if_neg (by intro e;subst e;exact hx (.inl (by omega)))]
  exact h.keep hkp x fun hd=>hx (.inr hd)
 ·rcases ib.1 hk with e | e
  ·subst e;omega
  ·exact h.dirty k e
 ·have:=hc.l1;have:=hc.r1
  rw[eh];simp only[upd];rw[if_neg (by omega)];exact h.ep
 ·have:=hc.l1;have:=hc.r1
  rw[eh];simp only[upd];rw[if_neg (by omega)];exact h.st
theorem zu{kp:Prop}{c:Cfg}{N:Nat}{old:Nat→Int}{js:List Nat}{S:bD}{s:Dev}(h:In kp c N old js S s)(hc:bx c){i:Nat}(v:Int)(hi:c.active≤i∧i<N)(hno:i∉js)(hf:¬(S.ff≤i∧(i:Int)<S.ft))(hroom:(js.length:Int)<c.log):
 ∃ s',S.store s i v= .ok (0,{S with L:={S.L with n:=S.L.n+1},seen:=mset S.seen i (),dirty:=mset S.dirty ((i:Int) / 8) ()}) s'∧In kp c N old (js++[i]) {S with L:={S.L with n:=S.L.n+1},seen:=mset S.seen i (),dirty:=mset S.dirty ((i:Int) / 8) ()} s'∧s'.now i=v∧∀ x:Nat,c.active≤x→x≠i→s'.now x=s.now x:=by
 have hact:=hc.act
 have hn:=h.n
 have hln:=h.ln
 have hcc:=h.hc
 have hN:=h.hN
 have hlt:=hi
 obtain⟨s1,e1,e2,e3,e4,e5⟩:=yf (L:=S.L) (s:=s) (i:=i) (r:=16+4*js.length) h.logw h.still (by omega) (by rw[hcc];omega) (by rw[hcc];omega) (by rw[hln];simp only[Cfg.record];omega)
 have hns:(bG S.seen i).isSome=false:=by
  cases hm:(bG S.seen (i:Int)).isSome with
  | false=>rfl
  | true=>obtain⟨j,hj,e⟩:=(h.seen i).1 hm;exact absurd (by rwa [show j=i by omega] at hj) hno
 have hnow:∀ x,x≠16+4*js.length→x≠16+4*js.length+1→x≠16+4*js.length+2→s1.now x=s.now x:=fun x h1 h2 h3=>by
  rw[e4];simp only[upd];rw[if_neg h1,if_neg h3,if_neg h2]
 refine⟨s1.sv i v,?_,⟨⟨by rw[go];exact e2.lim,by rw[xa];exact e2.q⟩,by rw[lL,e3,hn],hN,hcc,⟨h.logw.c,h.logw.e1,h.logw.e2,?_,?_⟩,?_,fun x=> ?_,fun k hk=> ?_,fun x hx hx1 hx2=> ?_,fun hkp x hx=> ?_,fun k hk=> ?_,kf h.nd,fun j hj=> ?_,List.nodup_append.2 ⟨h.jnd,by simp,fun a ha b hb=>by simp at hb;subst hb;rintro rfl;exact hno ha⟩,?_,.inr ⟨by simp,?_⟩⟩,?_,fun x hx hx1=> ?_⟩
 ·unfold bD.store
  rw[if_neg (by rw[hcc];omega),if_pos ⟨hns,by omega⟩,e1,aU]
  simp only[ne_eq,not_true_eq_false,if_false]
  rw[kL e2.lim (by rw[e3];omega)]
  rfl
 ·show 0≤S.L.n+1
  omega
 ·show S.L.n+1≤S.L.c.log
  rw[hcc];omega
 ·show S.L.n+1=_
  rw[List.length_append,hln];simp
 ·rw[jc]
  by_cases c1:x=i
  ·rw[if_pos c1];simp[c1]
  ·rw[if_neg c1,h.seen x]
   constructor
   ·rintro⟨j,hj,e⟩;exact⟨j,List.mem_append_left _ hj,e⟩
   ·rintro⟨j,hj,e⟩
    rcases List.mem_append.1 hj with h1 | h1
    ·exact⟨j,h1,e⟩
    ·have:j=i:=by simpa using h1
     subst this;exact absurd e.symm c1
 ·rw[eh]
  simp only[upd]
  rw[List.length_append,List.length_singleton] at hk
  rw[if_neg (by omega),if_neg (by omega)]
  by_cases c1:k<js.length
  ·obtain⟨r1,r2,r3,r4⟩:=h.recs k c1
   rw[hnow _ (by omega) (by omega) (by omega),hnow _ (by omega) (by omega) (by omega)]
   simp only[List.getElem_append_left c1]
   exact⟨r1,r2,r3,r4⟩
  ·have:k=js.length:=by omega
   subst this
   simp only[List.getElem_concat_length]
   refine⟨?_,?_,hi.1,hi.2⟩
   ·rw[e4];simp only[upd];rw[if_neg (by omega),if_neg (by omega)];simp only[if_true]
   ·rw[e4];simp only[upd,Int.toNat_natCast];rw[if_neg (by omega)];simp only[if_true];rw[if_neg (by omega)]
    exact h.same i hno hi.1 hf
 ·have h1:x∉js:=fun hh=>hx (List.mem_append_left _ hh)
  have h2:x≠i:=fun e=>hx (by simp[e])
  rw[eh];simp only[upd]
  rw[if_neg h2,hnow _ (by omega) (by omega) (by omega)]
  exact h.same x h1 hx1 hx2
 ·rw[ib] at hx
  rw[eh,kM]
  simp only[upd]
  rw[if_neg (by intro e;subst e;exact hx (.inl (by omega))),e5]
  by_cases c1:x / 8=(16+4*js.length) / 8
  ·rw[if_pos c1]
  ·rw[if_neg c1,hnow _ (by omega) (by omega) (by omega)]
   exact h.keep hkp x fun hd=>hx (.inr hd)
 ·rcases ib.1 hk with e | e
  ·subst e;omega
  ·exact h.dirty k e
 ·rcases List.mem_append.1 hj with h1 | h1
  ·exact h.out j h1
  ·have:j=i:=by simpa using h1
   subst this
   show(j:Int)<S.ff∨S.ft≤j
   omega
 ·have:=hc.l1;have:=hc.r1
  rw[eh];simp only[upd];rw[if_neg (by omega),hnow _ (by omega) (by omega) (by omega)];exact h.ep
 ·have:=hc.l1;have:=hc.r1
  rw[eh];simp only[upd];rw[if_neg (by omega)]
  rcases h.st with ⟨h1,_⟩ | ⟨h1,h2⟩
  ·rw[e4,hln,h1];simp only[upd,List.length_nil];rfl
  ·have:=List.length_pos_iff.2 h1
   rw[hnow _ (by omega) (by omega) (by omega)];exact h2
 ·rw[eh];simp only[upd,if_pos]
 ·rw[eh];simp only[upd];rw[if_neg hx1,hnow _ (by omega) (by omega) (by omega)]
theorem jk{c:Cfg}(hc:bx c):24≤c.active∧c.active<c.words∧c.words≤20000:=by
 have h1:=hc.act
 have h2:=words_b hc
 have:=hc.r1
 have:=hc.l1
 have h3:=gb (n:=c.root c.roots) (by simp only[Cfg.root];omega)
 have h4:=gb (n:=c.space) (by have:=hc.s1;omega)
 have:=hc.s1
 refine⟨by omega,?_,by omega⟩
 simp only[Cfg.words,Cfg.frm,Cfg.root] at*
 omega
theorem Ct{L:bT}(h:dR L):dR L.shut∧L.shut.n=0∧L.shut.c=L.c∧L.shut.d=L.d:=by
 have:=h.c.l1
 have:=h.c.r1
 unfold bT.shut
 by_cases c:L.n=0
 ·rw[if_pos c];exact⟨h,c,rfl,rfl⟩
 ·rw[if_neg c]
  exact⟨⟨h.c,by show 0≤(L.epoch+1)%4294967296;omega,by show(L.epoch+1)%4294967296<4294967296;omega,show(0:Int)≤0 by decide,by show(0:Int)≤L.c.log;omega⟩,rfl,rfl,rfl⟩
theorem ow{L:bT}{f:Nat→Int}{x:Nat}(hx:x≠8):L.shutNow f x=f x:=by
 unfold bT.shutNow;split
 ·rfl
 ·simp only[upd];rw[if_neg hx]
theorem wc{kp:Prop}{c:Cfg}{N:Nat}{old:Nat→Int}{js:List Nat}{S:bD}{s:Dev}(h:In kp c N old js S s)(hc:bx c)(hN:N≤1000000):lF S:=⟨h.logw,fun p hp=>by
 have:=h.dirty p.1 (List.mem_map_of_mem hp)
 have:=hc.act
 have:=hc.r1
 have:=hc.l1
 omega⟩
theorem xW{kp:Prop}{c:Cfg}{N:Nat}{old:Nat→Int}{js:List Nat}{S:bD}{s:Dev}(h:In kp c N old js S s)(hc:bx c)(hN:N≤1000000):S.dirty.length≤1000000:=by
 have hact:=hc.act
 have:=hc.r1
 have:=hc.l1
 have h1:=sS (d:=S.dirty.map Prod.fst) (l:=(List.range 1000000).map fun (i:Nat)=>(i:Int)) h.nd fun x hx=>by
  have:=h.dirty x hx
  exact List.mem_map.2 ⟨x.toNat,List.mem_range.2 (by omega),by omega⟩
 simpa using h1
structure SK(c:Cfg)(N bd:Nat)(S:bD)(s:Dev):Prop where
 still:kK s
 u:U64 s
 n:s.n=N
 hN:(N:Int)=c.words
 lc:S.L.c=c
 lw:dR S.L
 ln:S.L.n=0
 ld:S.L.d=bd
 sh:ug S.L s
theorem SK.secK{c:Cfg}{N bd:Nat}{S:bD}{s:Dev}(h:SK c N bd S s)(hc:bx c):AD S bd c s:=⟨h.lw,by have:=(jk hc).2.2;have:=h.hN;rw[h.n];omega,h.ld,h.lc⟩
structure HM(c:Cfg)(m:Int→Int)(a u:Int)(L:List Int):Prop where
 act:m c.active=a
 a01:0≤a∧a≤1
 used:m (c.active+1)=u
 u0:0≤u∧u≤c.space
 tile:iB m (c.frm a) L (c.frm a+u)
 names:∀ k∈L,∀ i,0≤i→i<orf m k→m (k+1+i)=0∨m (k+1+i)∈L
 roots:∀ i:Nat,(i:Int)<c.roots→m (c.root i)=0∨m (c.root i)∈L
abbrev tX(c:Cfg)(m:Int→Int)(a u:Int):Blk:=⟨a,u,tab c.roots.toNat fun i=>m (c.root i)⟩
theorem HM.block{c:Cfg}{s:Dev}{a u:Int}{L:List Int}(h:HM c s.load a u L):s.block c=(tX c s.load a u,0):=by
 have h1:=h.u0;have h2:=h.a01
 unfold Dev.block
 rw[h.act,h.used,if_neg (by omega)]
theorem HM.heap{c:Cfg}{m:Int→Int}{a u:Int}{L:List Int}(h:HM c m a u L):pQ c (tX c m a u) m L:=by
 refine⟨by unfold Blk.place;simp only;rw[Int.add_zero];exact h.tile,h.names,fun w hw=> ?_⟩
 obtain⟨i,hi,rfl⟩:=List.mem_map.1 (show w∈(List.range c.roots.toNat).map fun (i:Nat)=>m (c.root i) from hw)
 have:=List.mem_range.1 hi
 exact h.roots i (by omega)
theorem HM.bw{c:Cfg}{m:Int→Int}{a u:Int}{L:List Int}(h:HM c m a u L):fU c (tX c m a u):=⟨h.a01,h.u0⟩
theorem uU{c:Cfg}(hc:bx c){a:Int}(ha:0≤a∧a≤1):c.frm a+c.space≤c.words∧c.active+2+c.roots≤c.frm a∧24≤c.active∧c.frm a+c.space≤20000:=by
 have h1:=iI hc (k:=0) (by omega)
 have h2:=iI hc (k:=1) (by omega)
 have h3:=hc.act;have h4:=hc.l1;have h5:=hc.r1;have h6:=hc.s1
 rcases (by omega:a=0∨a=1) with rfl | rfl<;>omega
theorem HM.congr{c:Cfg}(hc:bx c){m m':Int→Int}{a u:Int}{L:List Int}(h:HM c m a u L)(e:∀ j,c.active≤j→m' j=m j):HM c m' a u L:=by
 have hf:=uU hc h.a01
 have hr:=hc.r1
 have e0:∀ k∈L,m' k=m k:=fun k hk=>e k (by have:=h.tile.mem hk;omega)
 have eo:∀ k∈L,orf m' k=orf m k:=fun k hk=>by unfold orf;rw[e0 k hk]
 refine⟨by rw[e _ (Int.le_refl _)];exact h.act,h.a01,by rw[e _ (by omega)];exact h.used,h.u0,h.tile.congr e0,fun k hk i h1 h2=> ?_,fun i hi=> ?_⟩
 ·have:=h.tile.mem hk
  rw[eo k hk] at h2
  rw[e _ (by omega)];exact h.names k hk i h1 h2
 ·rw[e _ (by simp only[Cfg.root];omega)];exact h.roots i hi
theorem HM.alloc{c:Cfg}(hc:bx c){m m':Int→Int}{a u:Int}{L:List Int}(h:HM c m a u L){w r:Int}(hw:0≤r∧r≤w∧w≤64)(hroom:¬ c.space - u<w+1)
 (hm:∀ j,c.active≤j→m' j=if c.frm a+u≤j∧j<c.frm a+u+(w+1) then (if j=c.frm a+u then eA w r else 0) else if j=c.active+1 then u+(w+1) else m j):HM c m' a (u+(w+1)) (L++[c.frm a+u]):=by
 have hf:=uU hc h.a01
 have hu:=h.u0
 have hr1:=hc.r1
 have hold:∀ k∈L,∀ j,0≤j→j<osz m k→m' (k+j)=m (k+j):=fun k hk j h0 h1=>by
  have:=h.tile.mem hk
  rw[hm _ (by omega),if_neg (by omega),if_neg (by omega)]
 have hold0:∀ k∈L,m' k=m k:=fun k hk=>by
  have:=hold k hk 0 (Int.le_refl 0) (by have:=il m k;omega)
  simpa using this
 have hnew:m' (c.frm a+u)=eA w r:=by rw[hm _ (by omega),if_pos (by omega),if_pos rfl]
 have hun:unp (m' (c.frm a+u))=(w,r,true):=by rw[hnew];exact r6 hw
 refine⟨by rw[hm _ (Int.le_refl _),if_neg (by omega),if_neg (by omega)];exact h.act,h.a01,by rw[hm _ (by omega),if_neg (by omega),if_pos aa],by omega,?_,fun k hk i h0 h1=> ?_,fun i hi=> ?_⟩
 ·have h1:=(h.tile.congr hold0).snoc (by rw[hun])
  have h2:osz m' (c.frm a+u)=w+1:=by unfold osz;rw[hun]
  rw[h2,Int.add_assoc] at h1
  exact h1
 ·rcases List.mem_append.1 hk with hk | hk
  ·have e:orf m' k=orf m k:=by unfold orf;rw[hold0 k hk]
   rw[e] at h1
   have hz:=il m k
   have:=hold k hk (1+i) (by omega) (by omega)
   rw[←Int.add_assoc] at this
   rw[this]
   exact(h.names k hk i h0 h1).imp id (List.mem_append_left _)
  ·rw[List.mem_singleton.1 hk] at h1 ⊢
   have:orf m' (c.frm a+u)=r:=by unfold orf;rw[hun]
   rw[this] at h1
   left
   rw[hm _ (by omega),if_pos (by omega),if_neg (by omega)]
 ·have:m' (c.root i)=m (c.root i):=by
   simp only[Cfg.root]
   rw[hm _ (by omega),if_neg (by omega),if_neg (by omega)]
  rw[this]
  exact(h.roots i hi).imp id (List.mem_append_left _)
theorem HM.set{c:Cfg}(hc:bx c){m m':Int→Int}{a u:Int}{L:List Int}(h:HM c m a u L){i v:Int}(hm:∀ j,c.active≤j→m' j=if j=i then v else m j)
 (hi:(∃ k∈L,∃ j,orf m k≤j∧j+1<osz m k∧i=k+1+j)∨((v=0∨v∈L)∧((∃ k∈L,∃ j,0≤j∧j<orf m k∧i=k+1+j)∨∃ r:Nat,(r:Int)<c.roots∧i=c.root r))):HM c m' a u L:=by
 have hf:=uU hc h.a01
 have hu:=h.u0
 have hr1:=hc.r1
 have hin:(∃ k∈L,∃ j,0≤j∧j+1<osz m k∧i=k+1+j)∨∃ r:Nat,(r:Int)<c.roots∧i=c.root r:=by
  rcases hi with ⟨k,hk,j,h1,h2,h3⟩ | ⟨_,⟨k,hk,j,h1,h2,h3⟩ | hr⟩
  ·exact .inl ⟨k,hk,j,by have:=il m k;omega,h2,h3⟩
  ·exact .inl ⟨k,hk,j,h1,by have:=il m k;omega,h3⟩
  ·exact .inr hr
 have hnh:∀ k∈L,k≠i:=fun k hk e=>by
  have h1:=h.tile.mem hk
  rcases hin with ⟨k',hk',j,h2,h3,h4⟩ | ⟨r,h2,h3⟩
  ·rcases Int.lt_trichotomy k k' with hl | he | hl
   ·omega
   ·omega
   ·have:=h.tile.disj hk' hk hl;omega
  ·simp only[Cfg.root] at h3;omega
 have hlow:c.active+2≤i:=by
  rcases hin with ⟨k',hk',j,h2,h3,h4⟩ | ⟨r,h2,h3⟩
  ·have h1:=h.tile.mem hk';omega
  ·simp only[Cfg.root] at h3;omega
 have hLa:∀ k∈L,c.active≤k:=fun k hk=>by have:=h.tile.mem hk;omega
 have e0:∀ k∈L,m' k=m k:=fun k hk=>by rw[hm k (hLa k hk),if_neg (hnh k hk)]
 have eo:∀ k∈L,orf m' k=orf m k:=fun k hk=>by unfold orf;rw[e0 k hk]
 refine⟨by rw[hm _ (Int.le_refl _),if_neg (by omega)];exact h.act,h.a01,by rw[hm _ (by omega),if_neg (by omega)];exact h.used,h.u0,h.tile.congr e0,fun k hk j h1 h2=> ?_,fun r hr=> ?_⟩
 ·rw[eo k hk] at h2
  have hka:=hLa k hk
  rw[hm _ (by omega)]
  by_cases hx:k+1+j=i
  ·rw[if_pos hx]
   rcases hi with ⟨k',hk',j',g1,g2,g3⟩ | ⟨hv,_⟩
   ·exfalso
    have hz:=il m k;have hz':=il m k'
    rcases Int.lt_trichotomy k k' with hl | he | hl
    ·have:=h.tile.disj hk hk' hl;omega
    ·subst he;omega
    ·have:=h.tile.disj hk' hk hl;omega
   ·exact hv
  ·rw[if_neg hx];exact h.names k hk j h1 h2
 ·rw[hm _ (by simp only[Cfg.root];omega)]
  by_cases hx:c.root r=i
  ·rw[if_pos hx]
   rcases hi with ⟨k',hk',j',g1,g2,g3⟩ | ⟨hv,_⟩
   ·exfalso
    have h1:=h.tile.mem hk'
    have hz':=il m k'
    simp only[Cfg.root] at hx;omega
   ·exact hv
  ·rw[if_neg hx];exact h.roots r hr
theorem uN{kp:Prop}{c:Cfg}{N:Nat}{old:Nat→Int}{js:List Nat}{S:bD}{s:Dev}(h:In kp c N old js S s)(hc:bx c){i:Nat}(v:Int)(hi:c.active≤i∧i<N)(hv:0≤v∧v<18446744073709551616)(hu:U64 s)(hr:(S.ff≤i∧(i:Int)<S.ft)∨i∈js∨(js.length:Int)<c.log):
 ∃ S' s' js',S.store s i v= .ok (0,S') s'∧In kp c N old js' S' s'∧U64 s'∧(S'.ff=S.ff∧S'.ft=S.ft∧S'.L.d=S.L.d∧S'.L.c=S.L.c)∧(js'=js∨(js'=js++[i]∧¬ (S.ff≤i∧(i:Int)<S.ft)))∧∀ j:Int,c.active≤j→s'.load j=if j=i then v else s.load j:=by
 have hA:=jk hc
 have hN:=h.hN
 have hn:=h.n
 have hsw:=wc h hc (by omega)
 have ldf:∀ s':Dev,s'.n=N→s'.now i=v→(∀ x:Nat,c.active≤x→x≠i→s'.now x=s.now x)→∀ j:Int,c.active≤j→s'.load j=if j=i then v else s.load j:=fun s' hn' h1 h2 j hj=>by
  by_cases hr:j<N
  ·rw[kj (s:=s') (k:=j.toNat) (by omega) (by omega),kj (s:=s) (k:=j.toNat) (by omega) (by omega)]
   by_cases e:j=i
   ·rw[if_pos e,show j.toNat=i by omega];exact h1
   ·rw[if_neg e];exact h2 _ (by omega) (by omega)
  ·have z:∀ t:Dev,t.n=N→t.load j=0:=fun t ht=>by
    unfold Dev.load Dev.has
    rw[if_neg (by simp;omega)]
   rw[z s' hn',z s hn,if_neg (by omega)]
 by_cases hno:i∈js∨(S.ff≤i∧(i:Int)<S.ft)
 ·obtain⟨e1,e2⟩:=zx h hc v hi hno
  have hu':=(ju hsw hu (by omega) hv e1).1
  refine⟨_,_,js,e1,e2,hu',⟨rfl,rfl,rfl,rfl⟩,.inl aa,ldf _ e2.n ?_ fun x _ hx=> ?_⟩
  ·rw[eh];unfold upd;rw[if_pos rfl]
  ·rw[eh];unfold upd;rw[if_neg hx]
 ·have hroom:(js.length:Int)<c.log:=by
   rcases hr with hr | hr | hr
   ·exact absurd (.inr hr) hno
   ·exact absurd (.inl hr) hno
   ·exact hr
  obtain⟨s',e1,e2,e3,e4⟩:=zu h hc v hi (fun hx=>hno (.inl hx)) (fun hx=>hno (.inr hx)) hroom
  have hu':=(ju hsw hu (by omega) hv e1).1
  exact⟨_,s',_,e1,e2,hu',⟨rfl,rfl,rfl,rfl⟩,.inr ⟨rfl,fun hx=>hno (.inr hx)⟩,ldf s' e2.n e3 e4⟩
theorem we{kp:Prop}{c:Cfg}{N:Nat}{old:Nat→Int}{js:List Nat}(hc:bx c){a h0:Int}(hh:0≤h0∧h0<18446744073709551616):∀ (f:Nat) (i:Int) (S:bD) (s:Dev),In kp c N old js S s→U64 s→0≤i→c.active≤a→a+i+f≤N→S.ff≤a→a+i+f≤S.ft→
 ∃ S' s',fA fy a h0 f i s S= .ok ((a,0),S') s'∧In kp c N old js S' s'∧U64 s'∧(S'.ff=S.ff∧S'.ft=S.ft∧S'.L.d=S.L.d∧S'.L.c=S.L.c)∧∀ j:Int,c.active≤j→s'.load j=if a+i≤j∧j<a+i+f then (if j=a then h0 else 0) else s.load j
 | 0,i,S,s,h,hu,hi,ha,hf,_,_=>⟨S,s,rfl,h,hu,⟨rfl,rfl,rfl,rfl⟩,fun j _=>by rw[if_neg (by omega)]⟩
 | f+1,i,S,s,h,hu,hi,ha,hf,h1,h2=>by
   have hA:=jk hc
   obtain⟨v,hvd⟩:∃ v,v=if i=0 then h0 else 0:=⟨_,rfl⟩
   have hv:0≤v∧v<18446744073709551616:=by rw[hvd];split<;>first | exact hh | decide
   obtain⟨S1,s1,js1,e1,e2,e3,e4,e5,e6⟩:=uN h hc (i:=(a+i).toNat) v (by omega) hv hu (.inl (by omega))
   have hjs:js1=js:=by
    rcases e5 with e5 | ⟨_,e5⟩
    ·exact e5
    ·exact absurd (show S.ff≤((a+i).toNat:Int)∧((a+i).toNat:Int)<S.ft by omega) e5
   subst hjs
   obtain⟨S',s',g1,g2,g3,g4,g5⟩:=we hc hh f (i+1) S1 s1 e2 e3 (by omega) ha (by omega) (by rw[e4.1];exact h1) (by rw[e4.2.1];omega)
   refine⟨S',s',?_,g2,g3,⟨g4.1.trans e4.1,g4.2.1.trans e4.2.1,g4.2.2.1.trans e4.2.2.1,g4.2.2.2.trans e4.2.2.2⟩,fun j hj=> ?_⟩
   ·unfold fA
    rw[←hvd,show fy (a+i) v s S= .ok (0,S1) s1 from by rw[show(a+i)=(((a+i).toNat:Nat):Int) by omega];exact e1]
    simp only[aU]
    rw[if_neg (by decide)]
    exact g1
   ·rw[g5 j hj]
    by_cases hj2:j=a+i
    ·rw[if_neg (by omega),e6 j hj,if_pos (by omega),if_pos (by omega),hvd]
     by_cases h0:i=0
     ·rw[if_pos h0,if_pos (by omega)]
     ·rw[if_neg h0,if_neg (by omega)]
    ·by_cases hr:a+(i+1)≤j∧j<a+(i+1)+f
     ·rw[if_pos hr,if_pos (c:=a+i≤j∧j<a+i+((f+1:Nat):Int)) (by omega)]
     ·rw[if_neg hr,if_neg (c:=a+i≤j∧j<a+i+((f+1:Nat):Int)) (by omega),e6 j hj,if_neg (by omega)]
theorem zw{kp:Prop}{c:Cfg}(hc:bx c){N:Nat}{old:Nat→Int}{js:List Nat}{S:bD}{s:Dev}(h:In kp c N old js S s)(hu:U64 s){a u:Int}{L:List Int}(hm:HM c s.load a u L){w r:Int}(hw:0≤r∧r≤w∧w≤64)(hroom:¬ c.space - u<w+1)(hff:S.ff≤c.frm a+u)(hft:S.ft=c.frm a+c.space)(hff2:c.frm a≤S.ff)
 (hr:(c.active+1).toNat∈js∨(js.length:Int)<c.log):
 ∃ S' s' js',cY fy c w r s S= .ok ((c.frm a+u,0),S') s'∧In kp c N old js' S' s'∧U64 s'∧(S'.ff=S.ff∧S'.ft=S.ft∧S'.L.d=S.L.d∧S'.L.c=S.L.c)∧js'.length≤js.length+1∧(js'=js∨js'=js++[(c.active+1).toNat])∧HM c s'.load a (u+(w+1)) (L++[c.frm a+u])∧
  ∀ j,c.active≤j→s'.load j=if c.frm a+u≤j∧j<c.frm a+u+(w+1) then (if j=c.frm a+u then eA w r else 0) else if j=c.active+1 then u+(w+1) else s.load j:=by
 have hA:=jk hc
 have hf:=uU hc hm.a01
 have hu0:=hm.u0
 have hr1:=hc.r1
 have hN:=h.hN
 obtain⟨S1,s1,js1,e1,e2,e3,e4,e5,e6⟩:=uN h hc (i:=(c.active+1).toNat) (u+(w+1)) (by omega) (by omega) hu (.inr hr)
 obtain⟨S',s',g1,g2,g3,g4,g5⟩:=we hc (a:=c.frm a+u) (rt w r) (w+1).toNat 0 S1 s1 e2 e3 (Int.le_refl 0) (by omega) (by omega) (by rw[e4.1];omega) (by rw[e4.2.1];omega)
 have hld:∀ j,c.active≤j→s'.load j=if c.frm a+u≤j∧j<c.frm a+u+(w+1) then (if j=c.frm a+u then eA w r else 0) else if j=c.active+1 then u+(w+1) else s.load j:=fun j hj=>by
  rw[g5 j hj,e6 j hj]
  by_cases hj2:c.frm a+u≤j∧j<c.frm a+u+(w+1)
  ·rw[if_pos hj2,if_pos (by omega)]
  ·rw[if_neg hj2,if_neg (by omega)]
   by_cases e:j=c.active+1
   ·rw[if_pos e,if_pos (by omega)]
   ·rw[if_neg e,if_neg (by omega)]
 refine⟨S',s',js1,?_,g2,g3,⟨g4.1.trans e4.1,g4.2.1.trans e4.2.1,g4.2.2.1.trans e4.2.2.1,g4.2.2.2.trans e4.2.2.2⟩,?_,e5.imp id And.left,hm.alloc hc hw hroom hld,hld⟩
 ·have hk:mo w r=0:=by unfold mo;rw[if_pos (by omega)]
  unfold cY
  rw[if_neg (by rw[hk];decide),hm.block,if_neg (by simp)]
  simp only
  rw[if_neg hroom,show fy (c.active+1) (u+(w+1)) s S= .ok (0,S1) s1 from by rw[show(c.active+1)=(((c.active+1).toNat:Nat):Int) by omega];exact e1]
  simp only[aU]
  rw[if_neg (by decide)]
  exact g1
 ·rcases e5 with e5 | ⟨e5,_⟩<;>rw[e5]<;>simp
theorem iB.len{m:Int→Int}:∀ {L:List Int} {a e:Int},iB m a L e→(L.length:Int)≤e - a
 | [],a,e,h=>by cases h;simp
 | x::t,a,e,h=>by have:=h.2.2.len;have:=il m a;simp only[List.length_cons];omega
section
variable {c:Cfg} {b:Blk} {L:List Int} {s:Dev}
def Bk(s:Dev)(k:Int):dq:=(osz s.load k - 1,orf s.load k,k)
theorem qk(hc:bx c)(hb:fU c b)(h:pQ c b s.load L):∀ (t:List Int) (a:Int) (f:Nat),iB s.load a t (b.place c b.used)→(∀ k∈t,k∈L)→t.length<f→s.objs c b f a=t.map fun k=>(Bk s k,0)
 | [],a,f+1,ht,_,_=>by
   unfold Dev.objs
   rw[if_pos (by rw[show a=b.place c b.used from ht];exact Int.le_refl _)];rfl
 | k::t,a,f+1,ht,hl,hf=>by
   obtain⟨rfl,h2,h3⟩:=ht
   have hz:=il s.load k
   have hle:=h3.le
   have ho:=(rB hc hb h (hl k (List.mem_cons_self ..))).1
   simp only[List.length_cons] at hf
   unfold Dev.objs
   rw[if_neg (by omega),ho,if_neg (by simp)]
   simp only[List.map_cons]
   rw[show k+(osz s.load k - 1+1)=k+osz s.load k by omega,qk hc hb h t _ f h3 (fun x hx=>hl x (List.mem_cons_of_mem _ hx)) (by omega)]
   rfl
 | _,_,0,_,_,hf=>absurd hf (Nat.not_lt_zero _)
theorem qJ(hc:bx c)(hb:fU c b)(h:pQ c b s.load L):s.objs c b (b.used.toNat+1) (b.place c 0)=L.map fun k=>(Bk s k,0):=by
 have h1:=h.tile.len
 have h2:=hb.used
 exact qk hc hb h L _ _ h.tile (fun _ h=>h) (by unfold Blk.place at h1;omega)
theorem rA{α ι:Type}{st:α→ι→Bool×ι}{g:ι→α→ι}:∀ (l:List α) (x:ι),(∀ a∈l,∀ x,st a x=(true,g x a))→itl st l x=(true,l.foldl g x)
 | [],x,_=>rfl
 | a::t,x,h=>by
   have e:=h a (List.mem_cons_self ..) x
   unfold itl
   rw[if_pos (by rw[e]),e]
   exact rA t _ fun b hb=>h b (List.mem_cons_of_mem _ hb)
theorem qR{β:Type}(f:Int→β):∀ (l:List Int) (x:List (Int×β)×Int) (k:Int),(k∈l∨(bG x.1 k).isSome=true)→(bG (l.foldl (fun y k=>(mset y.1 k (f k),y.2)) x).1 k).isSome=true
 | [],x,k,h=>h.resolve_left (by simp)
 | a::t,x,k,h=>by
   refine qR f t _ k ?_
   by_cases e:k=a
   ·right;simp only;rw[jc,if_pos e];rfl
   ·rcases h with h | h
    ·exact .inl ((List.mem_cons.1 h).resolve_left e)
    ·right;simp only;rw[jc,if_neg e];exact h
theorem tB{β:Type}(f:Int→β):∀ (l:List Int) (x:List (Int×β)×Int),(l.foldl (fun y k=>(mset y.1 k (f k),y.2)) x).2=x.2
 | [],_=>rfl
 | a::t,x=>tB f t _
theorem tj(hc:bx c)(hb:fU c b)(h:pQ c b s.load L):(s.starts c b).2=0∧∀ k∈L,(bG (s.starts c b).1 k).isSome=true:=by
 have e:s.starts c b=L.foldl (fun y k=>(mset y.1 k (Bk s k),y.2)) ([],0):=by
  unfold Dev.starts Dev.startsI
  rw[qJ hc hb h,rA (g:=fun y (p:dq×Int)=>(mset y.1 p.1.2.2 p.1,y.2)) _ _ (fun p hp x=>by
   obtain⟨k,_,rfl⟩:=List.mem_map.1 hp
   unfold stS
   rw[if_neg (by simp)]),List.foldl_map]
  rfl
 rw[e]
 exact⟨tB _ _ _,fun k hk=>qR _ _ _ _ (.inl hk)⟩
theorem ph(hc:bx c)(hu:U64 s)(hbl:s.block c=(b,0))(h:pQ c b s.load L):s.check c=0:=by
 have hb0:b=(s.block c).1:=by rw[hbl]
 have hb:fU c b:=by rw[hb0];exact dB hc hu
 obtain⟨h1,h2⟩:=tj hc hb h
 have hn:∀ v,v=0∨v∈L→dD c b (s.starts c b).1 v=true:=fun v hv=>by
  unfold dD
  rcases hv with rfl | hv
  ·simp
  ·rw[(rB hc hb h hv).2,h2 v hv];simp
 unfold Dev.check
 rw[hbl]
 simp only
 rw[if_neg (by simp),if_neg (by rw[h1];simp),if_pos]
 ·rw[qJ hc hb h,rA (g:=fun y _=>y)]
  ·have:∀ (l:List (dq×Int)) (x:Int),l.foldl (fun y _=>y) x=x:=fun l=>by
    induction l with
    | nil=>intro x;rfl
    | cons a t ih=>intro x;exact ih x
   rw[this]
  ·intro p hp x
   obtain⟨k,hk,rfl⟩:=List.mem_map.1 hp
   unfold stC
   rw[if_pos]
   unfold sD
   rw[List.all_eq_true]
   intro j hj
   have:=List.mem_range.1 hj
   simp only[Bk] at this ⊢
   exact hn _ (h.names k hk j (by omega) (by omega))
 ·rw[List.all_eq_true]
  exact fun v hv=>hn v (h.roots v hv)
end
theorem j6{L:bT}{s:Dev}(h:L.n=0):L.undo s= .ok L s:=by
 unfold bT.undo
 rw[show L.n.toNat=0 by omega]
 simp[kZ,bT.truncate,h,Out.then]
theorem yW{c:Cfg}(hc:bx c){s:Dev}(hn:(s.n:Int)=c.words)(h0:s.load 0=gv)(h1:s.load 1=c.log)(h2:s.load 2=c.roots)(h3:s.load 3=c.space):s.readC=(c,0):=by
 have l1:=hc.l1;have l2:=hc.l2;have r1:=hc.r1;have r2:=hc.r2;have s1:=hc.s1;have s2:=hc.s2
 have e:∀ x:Int,0≤x∧x≤4096→IntKind.i64.wrap x=x:=fun x hx=>hG (by omega)
 have e1:cx s 0=c.log:=by unfold cx;rw[show(1+((0:Nat):Int))=1 from rfl,h1];exact e _ (by omega)
 have e2:cx s 1=c.roots:=by unfold cx;rw[show(1+((1:Nat):Int))=2 from rfl,h2];exact e _ (by omega)
 have e3:cx s 2=c.space:=by unfold cx;rw[show(1+((2:Nat):Int))=3 from rfl,h3];exact e _ (by omega)
 have hcc:(⟨c.log,c.roots,c.space⟩:Cfg)=c:=rfl
 unfold Dev.readC
 rw[if_neg (by rw[h0];simp),if_neg (by omega),e1,e2,e3,hcc,if_neg (by rintro(h | h);exact h hc;exact h hn)]
theorem oS{s t:Dev}(h:t.load=s.load)(c:Cfg)(e:Int):∀ f n,gK t c e f n=gK s c e f n
 | 0,_=>rfl
 | f+1,n=>by unfold gK;rw[h,oS h c e f]
theorem uI{s t:Dev}(h:t.load=s.load)(d:Nat)(c:Cfg):bP d c t=bP d c s:=by unfold bP;rw[h,oS h]
theorem wR(s:Dev)(pa:Nat):(cpD s pa).load=s.load:=by
 funext j
 unfold Dev.load Dev.has
 show(if (decide (0≤j)&&decide (j<(s.n:Int)))=true then (tab s.n s.now).getD j.toNat 0 else 0)=_
 split
 ·rename_i h
  simp only[Bool.and_eq_true,decide_eq_true_eq] at h
  have e:tab s.n s.now=(List.range s.n).map s.now:=rfl
  rw[e,List.getD_eq_getElem?_getD]
  simp[show j.toNat<s.n by omega]
 ·rfl
structure OkD(c:Cfg)(N:Nat)(s:Dev)(e:Int)(a u:Int)(L:List Int):Prop where
 n:s.n=N
 hN:(N:Int)=c.words
 uu:U64 s
 rc:s.readC=(c,0)
 lg:∀ d,bP d c s=⟨d,c,e,0⟩
 hm:HM c s.load a u L
theorem OkD.open_{c:Cfg}(hc:bx c){N:Nat}{s:Dev}{e a u:Int}{L:List Int}(h:OkD c N s e a u L){bd:Nat}{x:Int}(hx:gi bd s x):x=0:=by
 have e0:s.readC.2=0:=by rw[h.rc]
 have e1:s.readC.1=c:=by rw[h.rc]
 rcases hx with ⟨h1,_⟩ | ⟨_,h1,_⟩ | ⟨_,_,bc,pa,L1,t1,h2,h3⟩
 ·exact absurd e0 h1
 ·rw[e1,h.lg] at h1
  exact absurd h1 (show ¬ (0:Int)≤ -1 by decide)
 ·rw[e1,uI (wR s pa),h.lg,j6 rfl] at h2
  cases h2
  rw[h3,e1]
  have hm:HM c (cpD s pa).load a u L:=by rw[wR];exact h.hm
  exact ph hc (Cd h.uu pa) hm.block hm.heap
theorem OkD.undo{c:Cfg}{N:Nat}{s:Dev}{e a u:Int}{L:List Int}(h:OkD c N s e a u L){bd:Nat}{L':bT}{s':Dev}(hx:(bP bd s.readC.1 s).undo s= .ok L' s'):s'=s:=by
 rw[show s.readC.1=c by rw[h.rc],h.lg,j6 rfl] at hx
 cases hx;rfl
theorem OkD.noff{c:Cfg}{N:Nat}{s:Dev}{e a u:Int}{L:List Int}(h:OkD c N s e a u L){bd:Nat}{s':Dev}(hx:(bP bd s.readC.1 s).undo s= .off s'):False:=by
 rw[show s.readC.1=c by rw[h.rc],h.lg,j6 rfl] at hx
 cases hx
structure HC(kp:Prop)(c:Cfg)(N bd:Nat)(h:HpS)(s:Dev)(a u:Int)(L:List Int):Prop where
 hbd:h.bd=bd
 hcc:h.c=c
 ho:h.o=false
 sk:SK c N bd h.S s
 hm:HM c s.load a u L
 rc:s.readC=(c,0)
 hw:db h s
 hkp:kp→s.kept=s.now
theorem Bl{c:Cfg}(hc:bx c){N:Nat}{s:Dev}{e a u:Int}{L:List Int}(h:OkD c N s e a u L)(hs:kK s)(he:0≤e∧e<4294967296)(hsh:s.now 8=e∧s.now 16≠gp e 0)(bd:Nat){kp:Prop}(hk:kp→s.kept=s.now):HC kp c N bd (cz bd c s) s a u L:=by
 have hA:=jk hc
 have hN:=h.hN
 have hlog:0≤c.log:=by have:=hc.l1;have:=hc.r1;omega
 have hlw:dR ⟨bd,c,e,0⟩:=⟨hc,he.1,he.2,Int.le_refl _,hlog⟩
 have hS:(cz bd c s).S=⟨⟨bd,c,e,0⟩,0,0,[],[]⟩:=by unfold cz;rw[h.lg]
 have hsk:SK c N bd (cz bd c s).S s:=by
  rw[hS]
  exact⟨hs,h.uu,h.n,h.hN,rfl,hlw,rfl,rfl,hsh⟩
 refine⟨rfl,rfl,rfl,hsk,h.hm,h.rc,⟨hc,hsk.secK hc,fun x=>(by cases x),h.uu,⟨Int.le_refl _,by show(0:Int)≤1000000000;decide⟩,Nat.zero_le _,fun p hp=>(by cases hp),fun X hX=>(by cases hX)⟩,hk⟩
theorem Fmt.okd{c:Cfg}(hc:bx c){N:Nat}{s:Dev}(h:Fmt c N s)(hN:(N:Int)=c.words)(hu:U64 s):OkD c N s 1 0 0 []:=by
 have hA:=jk hc
 have hld:∀ k:Nat,k<24→s.load k=s.now k:=fun k hk=>kj rfl (by rw[h.n];omega)
 have hF:=CZ hc hN h hu
 refine⟨h.n,hN,hu,yW hc (by rw[h.n];exact hN) ?_ ?_ ?_ ?_,h.log,⟨hF.act,by omega,hF.used,hF.u0,hF.tile,hF.names,hF.roots⟩⟩
 ·rw[show(0:Int)=((0:Nat):Int) from rfl,hld 0 (by omega)];exact h.st.magic
 ·rw[show(1:Int)=((1:Nat):Int) from rfl,hld 1 (by omega)];exact h.st.cfg.1
 ·rw[show(2:Int)=((2:Nat):Int) from rfl,hld 2 (by omega)];exact h.st.cfg.2.1
 ·rw[show(3:Int)=((3:Nat):Int) from rfl,hld 3 (by omega)];exact h.st.cfg.2.2
theorem Fmt.hc{c:Cfg}(hc:bx c){N:Nat}{s:Dev}(h:Fmt c N s)(hN:(N:Int)=c.words)(hu:U64 s)(bd:Nat):HC True c N bd (cz bd c s) s 0 0 []:=
 Bl hc (h.okd hc hN hu) ⟨h.lim,h.calm.q⟩ ⟨by decide,by decide⟩ ⟨h.ep.1,by rw[h.ep.2];decide⟩ bd fun _=>h.calm.kept
structure K8(s s':Dev):Prop where
 n:s'.n=s.n
 now:∀ x:Nat,x<8→s'.now x=s.now x
theorem K8.refl{s:Dev}:K8 s s:=⟨rfl,fun _ _=>rfl⟩
theorem K8.trans{s s' s'':Dev}(h:K8 s s')(g:K8 s' s''):K8 s s'':=⟨g.n.trans h.n,fun x hx=>(g.now x hx).trans (h.now x hx)⟩
theorem ko{s s':Dev}{i v a:Int}(hi:8≤i)(e:s.store i v= .ok a s'):K8 s s':=by
 unfold Dev.store at e
 split at e
 ·cases e;exact .refl
 ·split at e
  ·cases e
  ·cases e
   exact⟨rfl,fun x hx=>by show upd s.now i.toNat v x=_;unfold upd;rw[if_neg (by omega)]⟩
theorem tf{s s':Dev}{i a:Int}(e:s.flush i= .ok a s'):K8 s s':=by
 unfold Dev.flush at e
 split at e
 ·cases e;exact .refl
 ·split at e
  ·cases e
  ·cases e;exact⟨rfl,fun _ _=>rfl⟩
theorem tg{s s':Dev}{a:Unit}(e:s.fence= .ok a s'):K8 s s':=by
 unfold Dev.fence at e
 split at e
 ·cases e
 ·cases e;exact⟨rfl,fun _ _=>rfl⟩
theorem xI{L:bT}{s s':Dev}{i:Int}{r:Int×bT}(hL:dR L)(e:L.append s i= .ok r s'):K8 s s':=by
 unfold bT.append at e
 split at e
 ·cases e;exact .refl
 split at e
 ·cases e;exact .refl
 have hr:16≤L.c.record L.n:=by have:=hL.n1;simp only[Cfg.record];omega
 obtain⟨_,s1,e1,e⟩:=aL e
 obtain⟨_,s2,e2,e⟩:=aL e
 obtain⟨_,s3,e3,e⟩:=aL e
 obtain⟨_,s4,e4,e⟩:=aL e
 obtain⟨_,s5,e5,e⟩:=aL e
 obtain⟨_,s6,e6,e⟩:=aL e
 obtain⟨_,s7,e7,e⟩:=aL e
 cases e
 exact((((((ko (by omega) e1).trans (ko (by omega) e2)).trans (tf e3)).trans (tg e4)).trans (ko (by omega) e5)).trans (tf e6)).trans (tg e7)
theorem mH{S:bD}{s s':Dev}{i v:Int}{r:Int×bD}(hL:dR S.L)(e:S.store s i v= .ok r s'):K8 s s':=by
 have hA:=jk hL.c
 unfold bD.store at e
 split at e
 ·cases e;exact .refl
 rename_i hi
 split at e
 ·obtain⟨x,t,e1,e⟩:=aL e
  have h1:=xI hL e1
  split at e
  ·cases e;exact h1
  ·obtain⟨y,u,e2,e⟩:=aL e
   cases e;exact h1.trans (ko (by omega) e2)
 ·obtain⟨y,u,e2,e⟩:=aL e
  cases e;exact ko (by omega) e2
theorem vZ{a h0:Int}:∀ (f:Nat) (i:Int) (S:bD) (s:Dev) (r:(Int×Int)×bD) (s':Dev),dR S.L→fA fy a h0 f i s S= .ok r s'→K8 s s'
 | 0,i,S,s,r,s',_,e=>by cases e;exact .refl
 | f+1,i,S,s,r,s',hL,e=>by
   unfold fA at e
   obtain⟨⟨x,S1⟩,s1,e1,e⟩:=aL e
   have h1:=mH hL e1
   split at e
   ·cases e;exact h1
   ·exact h1.trans (vZ f _ _ _ _ _ (j7 hL e1) e)
theorem zr{c:Cfg}{w r:Int}{S:bD}{s:Dev}{x:(Int×Int)×bD}{s':Dev}(hL:dR S.L)(e:cY fy c w r s S= .ok x s'):K8 s s':=by
 unfold cY at e
 split at e
 ·cases e;exact .refl
 split at e
 ·cases e;exact .refl
 split at e
 ·cases e;exact .refl
 ·obtain⟨⟨y,S1⟩,s1,e1,e⟩:=aL e
  have h1:=mH hL e1
  split at e
  ·cases e;exact h1
  ·exact h1.trans (vZ _ _ _ _ _ _ (j7 hL e1) e)
theorem K8.readC{c:Cfg}(hc:bx c){s s':Dev}(h:K8 s s')(hn:(s.n:Int)=c.words)(hr:s.readC=(c,0)):s'.readC=(c,0):=by
 have hA:=jk hc
 have hl:∀ k:Nat,k<8→s'.load k=s.load k:=fun k hk=>by
  rw[kj (k:=k) rfl (by rw[h.n];omega),kj (k:=k) rfl (by omega)];exact h.now k hk
 have hw:∀ k:Nat,k<3→cx s' k=cx s k:=fun k hk=>by
  have:=hl (1+k) (by omega)
  unfold cx
  rw[show(1+(k:Int))=((1+k:Nat):Int) by omega,this]
 have k0:s'.load 0=s.load 0:=hl 0 (by omega)
 have k1:s'.load 1=s.load 1:=hl 1 (by omega)
 have k2:s'.load 2=s.load 2:=hl 2 (by omega)
 have k3:s'.load 3=s.load 3:=hl 3 (by omega)
 rw[←hr]
 unfold Dev.readC
 rw[h.n,k0,k1,k2,k3,hw 0 (by omega),hw 1 (by omega),hw 2 (by omega)]
theorem Cm{T:eT}{k:Int}(h1:0≤T.last∧T.last+1≤1000000000)(h2:T.at_.length+1≤800000)(h3:∀ p∈T.at_,0≤p.2∧p.2≤1000000)(hk:0≤k∧k≤1000000):
 (0≤(T.take k).2.last∧(T.take k).2.last≤1000000000)∧(T.take k).2.at_.length≤800000∧(∀ p∈(T.take k).2.at_,0≤p.2∧p.2≤1000000):=by
 unfold eT.take
 split
 ·exact⟨by simp only;omega,by simp only;omega,h3⟩
 split
 ·exact⟨by simp only;omega,by simp only;omega,h3⟩
 ·refine⟨by simp only;omega,?_,fun p hp=> ?_⟩
  ·have:=oX T.at_ (T.last+1) k
   simp only;omega
  ·rcases uJ hp with e | e
   ·rw[e];exact hk
   ·exact h3 p e
structure HO(kp:Prop)(c:Cfg)(N bd:Nat)(old:Nat→Int)(js:List Nat)(h:HpS)(s:Dev)(a u u0:Int)(L:List Int):Prop where
 hbd:h.bd=bd
 hcc:h.c=c
 ho:h.o=true
 ss:In kp c N old js h.S s
 dd:h.S.L.d=bd
 hm:HM c s.load a u L
 rc:s.readC=(c,0)
 hw:db h s
 ff:h.S.ff=c.frm a+u0
 ft:h.S.ft=c.frm a+c.space
 ule:0≤u0∧u0≤u
theorem mL{kp:Prop}{c:Cfg}(hc:bx c){N bd:Nat}{old:Nat→Int}{js:List Nat}{h:HpS}{s:Dev}(hcc:h.c=c)(hbd:h.bd=bd)(hi:In kp c N old js h.S s)(hd:h.S.L.d=bd)(hu:U64 s)(hx:h.X=none)(t1:0≤h.T.last∧h.T.last≤1000000000)(t2:h.T.at_.length≤800000)(t3:∀ p∈h.T.at_,0≤p.2∧p.2≤1000000):db h s:=by
 have hA:=jk hc
 have hN:=hi.hN
 exact⟨by rw[hcc];exact hc,⟨hi.logw,by rw[hi.n];omega,by rw[hbd];exact hd,by rw[hcc];exact hi.hc⟩,fun _=>⟨wc hi hc (by omega),xW hi hc (by omega)⟩,hu,t1,t2,t3,fun X hX=>by rw[hx] at hX;cases hX⟩
theorem HC.blk{kp:Prop}{c:Cfg}{N bd:Nat}{h:HpS}{s:Dev}{a u:Int}{L:List Int}(H:HC kp c N bd h s a u L):h.blk s=tX c s.load a u:=by
 show(s.block h.c).1=_
 rw[H.hcc,H.hm.block]
theorem HO.blk{kp:Prop}{c:Cfg}{N bd:Nat}{old:Nat→Int}{js:List Nat}{h:HpS}{s:Dev}{a u u0:Int}{L:List Int}(H:HO kp c N bd old js h s a u u0 L):h.blk s=tX c s.load a u:=by
 show(s.block h.c).1=_
 rw[H.hcc,H.hm.block]
theorem HC.bok{kp:Prop}{c:Cfg}{N bd:Nat}{h:HpS}{s:Dev}{a u:Int}{L:List Int}(H:HC kp c N bd h s a u L):(s.block h.c).2=0:=by rw[H.hcc,H.hm.block]
theorem HC.begin{kp:Prop}{c:Cfg}(hc:bx c){N bd:Nat}{h:HpS}{s:Dev}{a u:Int}{L:List Int}(H:HC kp c N bd h s a u L){room:Int}(h0:0≤room)(hr:¬ c.space - u<room){x:Int}{h':HpS}{s':Dev}(hb:h.begR s room x h' s'):
 x=0∧s'=s∧h'.T=h.T∧HO kp c N bd s.now [] h' s a u u L:=by
 have hbl:=H.blk
 rcases hb with ⟨h1,_⟩ | ⟨_,h1,_⟩ | ⟨_,_,a1,h1,s1,hor,hor2⟩
 ·rw[H.ho] at h1;cases h1
 ·omega
 rcases hor with ⟨h2,_⟩ | ⟨h2,rfl,rfl,rfl⟩
 ·rw[hbl,H.hcc] at h2;exact absurd h2 hr
 rcases hor2 with ⟨h3,_⟩ | ⟨_,h3,_⟩ | ⟨_,h3,rfl,rfl,rfl⟩
 ·exact absurd aa h3
 ·rw[show HpS.blk {h with X:=none} s1=h.blk s1 from rfl,hbl,H.hcc] at h3;exact absurd h3 hr
 have hS:=H.sk
 have hi:In kp c N s'.now [] (h.S.fresh ((h.blk s').place h.c (h.blk s').used) ((h.blk s').place h.c h.c.space)) s':=zv hS.still H.hkp hS.n hS.hN hS.lc hS.lw hS.ln hS.sh
 refine⟨rfl,rfl,rfl,⟨H.hbd,H.hcc,rfl,hi,?_,H.hm,H.rc,mL hc H.hcc H.hbd hi ?_ hS.u aa H.hw.t1 H.hw.tl H.hw.tp,?_,?_,H.hm.u0.1,Int.le_refl _⟩⟩
 ·exact hS.ld
 ·exact hS.ld
 ·show(h.blk s').place h.c (h.blk s').used=_
  rw[hbl,H.hcc];rfl
 ·show(h.blk s').place h.c h.c.space=_
  rw[hbl,H.hcc];rfl
section
variable {kp:Prop} {c:Cfg} {N bd:Nat} {old:Nat→Int} {js:List Nat} {h:HpS} {s:Dev} {a u u0:Int} {L:List Int}
theorem HO.uu(H:HO kp c N bd old js h s a u u0 L):U64 s:=H.hw.u
theorem HO.nc(H:HO kp c N bd old js h s a u u0 L):(s.n:Int)=c.words:=by rw[H.ss.n];exact H.ss.hN
theorem HO.put(hc:bx c)(H:HO kp c N bd old js h s a u u0 L)(hx:h.X=none){i v:Int}(hv:0≤v∧v<18446744073709551616)(hi:c.active≤i∧i<N)
 (hk:(∃ k∈L,∃ j,orf s.load k≤j∧j+1<osz s.load k∧i=k+1+j)∨((v=0∨v∈L)∧((∃ k∈L,∃ j,0≤j∧j<orf s.load k∧i=k+1+j)∨∃ r:Nat,(r:Int)<c.roots∧i=c.root r)))
 (hr:(h.S.ff≤i∧i<h.S.ft)∨i.toNat∈js∨(js.length:Int)<c.log):
 ∃ S' s' js',h.S.store s i v= .ok (0,S') s'∧HO kp c N bd old js' {h with S:=S'} s' a u u0 L∧(∀ x∈js,x∈js')∧js'.length≤js.length+1∧(¬ (h.S.ff≤i∧i<h.S.ft)∨js'=js)∧∀ j:Int,c.active≤j→s'.load j=if j=i then v else s.load j:=by
 have hA:=jk hc
 have hN:=H.ss.hN
 obtain⟨S',s',js',e1,e2,e3,e4,e5,e6⟩:=uN H.ss hc (i:=i.toNat) v (by omega) hv H.uu (hr.imp (fun h=>by omega) id)
 rw[show((i.toNat:Nat):Int)=i by omega] at e1 e5 e6
 have hm':=H.hm.set hc e6 hk
 refine⟨S',s',js',e1,⟨H.hbd,H.hcc,H.ho,e2,e4.2.2.1.trans H.dd,hm',(mH H.ss.logw e1).readC hc H.nc H.rc,mL hc H.hcc H.hbd e2 (e4.2.2.1.trans H.dd) e3 hx H.hw.t1 H.hw.tl H.hw.tp,e4.1.trans H.ff,e4.2.1.trans H.ft,H.ule⟩,fun x hx=> ?_,?_,?_,e6⟩
 ·rcases e5 with e5 | ⟨e5,_⟩<;>rw[e5]
  ·exact hx
  ·exact List.mem_append_left _ hx
 ·rcases e5 with e5 | ⟨e5,_⟩<;>rw[e5]<;>simp
 ·rcases e5 with e5 | ⟨_,e5⟩
  ·exact .inr e5
  ·exact .inl (by simpa using e5)
theorem HO.alloc(hc:bx c)(H:HO kp c N bd old js h s a u u0 L)(hx:h.X=none){w r:Int}(hw:0≤r∧r≤w∧w≤64)(hroom:¬ c.space - u<w+1)(hr:(c.active+1).toNat∈js∨(js.length:Int)<c.log)(hl:h.T.last+1≤1000000000)(htl:h.T.at_.length+1≤800000):
 ∃ h' s' js',h.alloc s w r= .ok (((h.T.take (c.frm a+u)).1,0),h') s'∧HO kp c N bd old js' h' s' a (u+(w+1)) u0 (L++[c.frm a+u])∧h'.X=none∧h'.T=(h.T.take (c.frm a+u)).2∧(js'=js∨js'=js++[(c.active+1).toNat])∧js'.length≤js.length+1∧
  ∀ j,c.active≤j→s'.load j=if c.frm a+u≤j∧j<c.frm a+u+(w+1) then (if j=c.frm a+u then eA w r else 0) else if j=c.active+1 then u+(w+1) else s.load j:=by
 have hu0:=H.hm.u0
 have hf:=uU hc H.hm.a01
 have hr1':=hc.r1
 have hle:=H.ule
 obtain⟨S',s',js',e1,e2,e3,e4,e5,e5',e6,e7⟩:=zw hc H.ss H.uu H.hm hw hroom (by rw[H.ff];omega) H.ft (by rw[H.ff];omega) hr
 have hT:=Cm (T:=h.T) (k:=c.frm a+u) ⟨H.hw.t1.1,hl⟩ htl H.hw.tp (by omega)
 refine⟨{h with S:=S',T:=(h.T.take (c.frm a+u)).2},s',js',?_,⟨H.hbd,H.hcc,H.ho,e2,e4.2.2.1.trans H.dd,e6,(zr H.ss.logw e1).readC hc H.nc H.rc,mL hc H.hcc H.hbd e2 (e4.2.2.1.trans H.dd) e3 hx hT.1 hT.2.1 hT.2.2,e4.1.trans H.ff,e4.2.1.trans H.ft,by omega⟩,hx,rfl,e5',e5,e7⟩
 unfold HpS.alloc
 rw[if_pos H.ho,H.hcc,e1]
 simp only[aU]
 rw[if_neg (by simp)]
theorem HO.obj(hc:bx c)(H:HO kp c N bd old js h s a u u0 L){n k:Int}(hn:bG h.T.at_ n=some k)(hk:k∈L):h.obj s n=((osz s.load k - 1,orf s.load k,k),0):=by
 unfold HpS.obj
 rw[hn,if_pos (show(some k).isSome=true from rfl),H.blk,H.hcc]
 show s.objOf c _ k=_
 exact(rB hc H.hm.bw H.hm.heap hk).1
theorem HO.write(hc:bx c)(H:HO kp c N bd old js h s a u u0 L)(hx:h.X=none){n k i v:Int}(hn:bG h.T.at_ n=some k)(hk:k∈L)(hi:orf s.load k≤i∧i+1<osz s.load k)(hv:0≤v∧v<18446744073709551616)(hr:(h.S.ff≤k+1+i∧k+1+i<h.S.ft)∨(k+1+i).toNat∈js∨(js.length:Int)<c.log):
 ∃ h' s' js',h.write s n i v= .ok (0,h') s'∧HO kp c N bd old js' h' s' a u u0 L∧h'.X=none∧h'.T=h.T∧(∀ x∈js,x∈js')∧js'.length≤js.length+1∧(¬ (h.S.ff≤k+1+i∧k+1+i<h.S.ft)∨js'=js)∧∀ j:Int,c.active≤j→s'.load j=if j=k+1+i then v else s.load j:=by
 have hz:=il s.load k
 have hf:=uU hc H.hm.a01
 have hr1':=hc.r1
 have ht:=H.hm.tile.mem hk
 have hu0:=H.hm.u0
 have hN:=H.ss.hN
 obtain⟨S',s',js',e1,e2,e3,e4,e5,e6⟩:=H.put hc hx (i:=k+1+i) hv (by omega) (.inl ⟨k,hk,i,hi.1,hi.2,rfl⟩) hr
 refine⟨_,s',js',?_,e2,hx,rfl,e3,e4,e5,e6⟩
 have ho:bK (osz s.load k - 1,orf s.load k,k) i false=(k+1+i,0):=by
  unfold bK
  rw[if_neg (by simp only;omega),if_neg (by simp;omega)]
 unfold HpS.write
 rw[if_pos H.ho,H.obj hc hn hk,if_neg (by simp)]
 unfold hO
 simp only
 rw[ho,if_neg (by simp),show fy (k+1+i) v s h.S= .ok (0,S') s' from e1]
 rfl
theorem HO.commit(hc:bx c)(H:HO kp c N bd old js h s a u u0 L)(hx:h.X=none):
 ∃ h' s',h.commit s= .ok (0,h') s'∧HC kp c N bd h' s' a u L∧h'.X=none∧h'.T=h.T∧(kp→AH s')∧∀ j:Int,c.active≤j→s'.load j=s.load j:=by
 have hA:=jk hc
 have hN:=H.ss.hN
 obtain⟨s',e1,e2,e3,e4,e5,e6⟩:=xL H.ss hc
 have hk:=Ct H.ss.logw
 have hck:=tR H.ss.logw e1
 have hu':=hck.1 H.uu
 have hld:∀ j:Int,c.active≤j→s'.load j=s.load j:=fun j hj=>by
  unfold Dev.load Dev.has
  rw[e3,H.ss.n]
  split
  ·rw[e4,ow (by omega)]
  ·rfl
 have h8:K8 s s':=⟨by rw[e3,H.ss.n],fun x hx=>by rw[e4,ow (by omega)]⟩
 have hsk:SK c N bd {h.S with L:=h.S.L.shut} s':=⟨e2,hu',e3,hN,hk.2.2.1.trans H.ss.hc,hk.1,hk.2.1,hk.2.2.2.trans H.dd,e6⟩
 refine⟨{h with o:=false,S:={h.S with L:=h.S.L.shut}},s',?_,⟨H.hbd,H.hcc,rfl,hsk,H.hm.congr hc hld,h8.readC hc H.nc H.rc,⟨H.hw.c,⟨hsk.lw,by rw[e3];omega,by rw[H.hbd];exact hsk.ld,by rw[H.hcc];exact hsk.lc⟩,fun x=>(by cases x),hu',H.hw.t1,H.hw.tl,H.hw.tp,fun X hX=>by rw[show h.X=some X from hX] at hx;cases hx⟩,fun hp=>(e5 hp).kept⟩,hx,rfl,e5,hld⟩
 unfold HpS.commit
 rw[if_pos H.ho,e1]
 rfl
end
end Go.Proofs.YtipdhkmphngmoaaGreatDoor
