/- Part of a law's texts. Conditions: none. -/
import Derived.Test.YtipdhkmphngmoaaGreatDoorQL19Fm
open Go.Proofs.Tryz
set_option linter.all false
namespace Go.Proofs.YtipdhkmphngmoaaGreatDoor
open Go
def HpS.opened(h:HpS)(s:Dev):HpS:={h with o:=true,S:=h.S.fresh ((h.blk s).place h.c (h.blk s).used) ((h.blk s).place h.c h.c.space)}
def HpS.begR(h:HpS)(s:Dev)(room a:Int)(h':HpS)(s':Dev):Prop:=
 (h.o=true∧a=2∧h'=h∧s'=s)∨(h.o=false∧room<0∧a=1∧h'=h∧s'=s)∨
 (h.o=false∧0≤room∧∃ a1 h1 s1,((h.c.space - (h.blk s).used<room∧HpS.colR {h with X:=none} s a1 h1 s1)∨(¬ h.c.space - (h.blk s).used<room∧a1=0∧h1={h with X:=none}∧s1=s))∧
  ((a1≠0∧a=a1∧h'=h1∧s'=s1)∨(a1=0∧h.c.space - (h1.blk s1).used<room∧a=4∧h'=h1∧s'=s1)∨(a1=0∧¬ h.c.space - (h1.blk s1).used<room∧a=0∧h'=h1.opened s1∧s'=s1)))
theorem zE(B:World)(Fr:List HP)(c4 c1 bh bs bt x:Nat)(h:HpS)(hc:bx h.c)(b:Blk)(sv:Value)(hb:fU h.c b)(hsv:aN sv=true)(p:Int)(hp:0≤p∧p≤1000000):
 ∀ w,Holds B (row c4 [i64 b.act,i64 b.used,sv] 125::row c1 [ptr bh] 54::bX bh bs bt x h::Fr) w→Calls Tryz.prog 97 [i64 p,ptr c4,ptr c1].toArray w (aZ B (row c4 [i64 b.act,i64 b.used,sv] 125::row c1 [ptr bh] 54::bX bh bs bt x h::Fr) (i64 (pX h.c b p))):=by
 refine ak func97 aa ntmps97 aa (ac (ab (kPa aa aa (ad (ac (ac (cN Tryz.mixed (by kernel_rfl) (by kernel_rfl) ?_)))))))
 refine kQv (ah isAgg125 sizeOf125 aa aa) aa ?_
 refine kQv (ag isAgg54 aa aa) aa (kQv (aF aa) aa (kQv (aC (m:=_) c6 aa aa) aa (kQv (ah isAgg39 sizeOf39 aa aa) aa ?_)))
 refine kQm aa aa (kQv (cR runUnderlying3 runUnderlying24 aa (fk (by omega))) aa (bj aa (ar call98 aa) (pj _ _ h.c hc b sv hb hsv p (by omega)) .free aa ?_))
 refine kQv (bu aa) aa (bM (aj [13,4,0] rfl ?_))
 refine aV aa (fun h13=> ?_) (fun h13=> ?_)
 ·have hh:pX h.c b p=0:=by unfold pX;rw[if_neg (by simpa using h13)]
  refine ac (ab (kPa aa aa (ad (au ?_))))
  exact aq results97 aa (fun w hw=>⟨by rw[hh],hw⟩)
 ·have hh:pX h.c b p=p:=by unfold pX;rw[if_pos (by simpa using h13)]
  refine aw (ac (ab (kPm aa aa (kPa aa aa (ad (au ?_))))))
  exact aq results97 aa (fun w hw=>⟨by rw[hh],hw⟩)
theorem Ba(B:World)(c4 c1 bh bs bt x:Nat)(h:HpS)(hc:bx h.c)(b:Blk)(sv:Value)(hb:fU h.c b)(hsv:aN sv=true):AF B 97 [] [ptr c4,ptr c1] Unit (fun _=>[row c4 [i64 b.act,i64 b.used,sv] 125,row c1 [ptr bh] 54,bX bh bs bt x h]) (fun p=>0≤p∧p≤1000000) (pX h.c b) (fun _ e=>e) where
 enter:=call97
 says:=fun Fr p e hp w hw=>(zE B Fr c4 c1 bh bs bt x h hc b sv hb hsv p hp w hw).mono fun en w' h=>by
  obtain⟨rfl,h⟩:=h
  exact⟨_,⟨rfl,rfl⟩,h⟩
theorem uR(B:World)(Fr:List HP)(bh:Nat)(h:HpS)(s:Dev)(hW:db h s)(ho:h.o=true):
 ∀ w,Holds B (bZ bh h::ax h.bd s::Fr) w→Calls Tryz.prog 39 [ptr bh].toArray w (Ret B (fun rv H'=>∃ a h' s',h.abortR s a h' s'∧rv=i64 a∧H'=bZ bh h'::ax h.bd s'::Fr) (fun ch H'=>∃ s',h.S.abort s= .off s'∧ch=dh∧H'=ax h.bd s'::Fr)):=by
 refine ak func39 aa ntmps39 aa (dO fun bs bt x=>(aM [1] (aK (H':=gS bs h.S::_) (fun w hh=>by rw[ho] at hh;exact hh) (aM [0,3] (aK (H':=gS bs h.S::ax h.S.L.d s::_) (fun w hh=>by rw[hW.k.d];exact hh) (ac (ab (kPb (dA aa aa) aa fun b1=>(kPa aa aa (ad (ac ?_)))))))))))
 refine ac (ab (kPv (ag isAgg54 aa aa) aa (kPv (aF aa) aa (kPl cO isAgg119 aa aa aa aa (aM [1,1] ?_)))))
 refine aQ aa (ar call95 aa) (lr B _ bs h.S s (hW.sw ho).1) .free aa aa ?_ ?_
 rotate_left
 ·rintro _ _ ⟨s9,hm9,rfl,rfl⟩
  exact aX fun w hh=>⟨_,⟨s9,hm9,rfl,rfl⟩,by rw[hW.k.d] at hh;exact hh.dp [1,1,1,1]⟩
 rintro _ _ ⟨S2,s2,hm2,rfl,rfl⟩
 obtain⟨hk1,hk2,hk3,hk4,hk5,_⟩:=wX hW.k.w hm2
 have hu2:=hk1 hW.u
 have hbk:=dB (s:=s2) hW.c hu2
 refine aK (H':=dV bs S2::ax h.bd s2::_) (fun w hh=>by rw[hW.k.d] at hh;exact hh) (kPa aa aa (ad (ac (ab (kPm aa aa (kPv (am aa aa aa) aa (ad (aj [11,3,2,1] rfl (bH aa (rfl) (aw (ac ?_)))))))))))
 refine ab (kPv (ag isAgg54 aa aa) aa (aM [3,1] (aE aa (ar call73 aa) (eX B _ bh bs bt x h s2 hW.c hu2) .free aa aa ?_)))
 rintro _ _ ⟨sv,hsv,rfl,rfl⟩
 refine cy fun qb cb hqb hqbi=> ?_
 subst hqb
 refine kPb (aD zeroValue125 aa) aa fun b4=> ?_
 refine kPs (aA (vs:=_) sizeOf125 aa aa aa (by first | rfl | exact eB (by assumption)) rfl) rfl ?_;refine ad ?_;refine ac ?_;refine aK (H':=row b4 [i64 (h.blk s2).act,i64 (h.blk s2).used,.slice qb (h.blk s2).rts.length cb] 125::_) (fun w hh=>hh) ?_;refine ab ?_;refine kPv (ag isAgg54 aa aa) aa ?_;refine kPv (aF aa) aa ?_
 refine kPl eP isAgg120 aa aa aa aa (kPv (c7 aa aa) aa (aM [6,0,4,1] (aE aa (ar call96 aa) ((fun w hh=>qI B _ bt h.T _ [] [ptr b4,ptr b1] Unit _ _ _ _ (Ba B b4 b1 bh bs bt x h hW.c (h.blk s2) (.slice qb (h.blk s2).rts.length cb) hbk aa) hW.tp () w hh)) .free aa aa ?_)))
 rintro _ _ ⟨ord,hperm,rfl⟩
 refine aK (H':=eu bt (eT.moved (pX h.c (h.blk s2)) h.T.last ord)::row b4 [i64 (h.blk s2).act,i64 (h.blk s2).used,.slice qb (h.blk s2).rts.length cb] 125::row b1 [ptr bh] 54::bX bh bs bt x h::da 0 (.slice qb (h.blk s2).rts.length cb,(h.blk s2).rts)::ax h.bd s2::dV bs S2::vx x h.X::Fr) (fun w hh=>hh) (ad (aj [2] rfl (ac (ab (kPa aa aa (ad (au ?_)))))))
 exact aq results39 aa (fun w hw=>⟨_,⟨0,{h with o:=false,S:=S2,T:=eT.moved (pX h.c (h.blk s2)) h.T.last ord},s2,.inr ⟨ho,rfl,S2,hm2,ord,hperm,rfl⟩,rfl,rfl⟩,nw (h:={h with o:=false,S:=S2,T:=eT.moved (pX h.c (h.blk s2)) h.T.last ord}) (bs:=bs) (bt:=bt) (x:=x) aa ((hw.dp [1,1,2]).pk [1,2,0,1])⟩)
theorem uS(B:World)(Fr:List HP)(bh:Nat)(h:HpS)(s:Dev)(hW:db h s)(ho:h.o=false):
 ∀ w,Holds B (bZ bh h::ax h.bd s::Fr) w→Calls Tryz.prog 39 [ptr bh].toArray w (Ret B (fun rv H'=>∃ a h' s',h.abortR s a h' s'∧rv=i64 a∧H'=bZ bh h'::ax h.bd s'::Fr) (fun ch H'=>∃ s',h.S.abort s= .off s'∧ch=dh∧H'=ax h.bd s'::Fr)):=by
 refine ak func39 aa ntmps39 aa (dO fun bs bt x=>(aM [1] (aK (H':=dV bs h.S::_) (fun w hh=>by rw[ho] at hh;exact hh) (ac (ab (kPb (dA aa aa) aa fun b1=>(kPa aa aa (ad (ac (ac (ab ?_)))))))))))
 refine kPv (ag isAgg54 aa aa) aa (kPv (aF aa) aa (kPl cO isAgg119 aa aa aa aa (ap aa (ar call95 aa) (bF (q:=dV) (fun Fr=>ut B Fr bs h.S)) .free aa aa ?_)))
 refine kPa aa aa (ad (ac (ab (kPm aa aa (kPv (am aa aa aa) aa (ad (aj [11,3,2,1] rfl (li aa (rfl) (ac (ab (kPm aa aa ?_)))))))))))
 refine kPa aa aa (ad (au ?_))
 exact aq results39 aa (fun w hw=>⟨_,⟨2,h,s,.inl ⟨ho,rfl,rfl,rfl⟩,rfl,rfl⟩,nw (bs:=bs) (bt:=bt) (x:=x) ho ((hw.dp [0]).pk [1])⟩)
theorem xQ(B:World)(Fr:List HP)(bh:Nat)(h:HpS)(s:Dev)(hW:db h s):∀ w,Holds B (bZ bh h::ax h.bd s::Fr) w→Calls Tryz.prog 39 [ptr bh].toArray w (Ret B (fun rv H'=>∃ a h' s',h.abortR s a h' s'∧rv=i64 a∧H'=bZ bh h'::ax h.bd s'::Fr) (fun ch H'=>∃ s',h.S.abort s= .off s'∧ch=dh∧H'=ax h.bd s'::Fr)):=by
 cases ho:h.o
 ·exact uS B Fr bh h s hW ho
 ·exact uR B Fr bh h s hW ho
theorem tA(B:World)(H:List HP)(c:Cfg)(hc:bx c)(b:Blk)(sv:Value)(hb:fU c b)(hsv:aN sv=true):
 ∀ w,Holds B H w→Calls Tryz.prog 75 [dU c,lC b sv].toArray w (aZ B H (.agg #[i64 (b.place c b.used),i64 (b.place c c.space)])):=by
 refine ak func75 aa ntmps75 aa ?_
 have h1:=hb.used
 have h2:=hc.s1
 have h3:=hc.s2
 refine ac (ab (kPb (aY aa) aa fun b2=>(kPb (aY aa) aa fun b3=>(kPb (aD zeroValue129 aa) aa fun b4=>(ad (ac (cH 11 Tryz.mixed (by kernel_rfl) (by kernel_rfl) ?_)))))))
 refine kQv (ah isAgg125 sizeOf125 aa aa) aa ?_
 refine kQv (ah isAgg39 sizeOf39 aa aa) aa ?_
 refine kQv (aC (m:=_) dM aa aa) aa (kQv (ag isAgg3 aa aa) aa (bj aa (ar call136 aa) (ik _ _ c hc b sv hb hsv _ (by omega)) .free aa ?_))
 refine kQv (ah isAgg125 sizeOf125 aa aa) aa ?_
 refine kQv (ah isAgg39 sizeOf39 aa aa) aa ?_
 refine kQv (aC (m:=_) gD aa aa) aa (kQv (ag isAgg3 aa aa) aa (bj aa (ar call136 aa) (ik _ _ c hc b sv hb hsv _ (by omega)) .free aa ?_))
 refine kQv (aR aa (ua _ _ aa aa)) aa (bM (kPs (aA (vs:=_) sizeOf129 aa aa aa aa aa) aa (ad (aj [4] rfl (au ?_)))))
 exact qg results75 (.cellA aa isAgg129 sizeOf129 aa aa) (fun w hw=>⟨rfl,(hw.dp [0,0,0])⟩)
theorem qL(B:World)(Fr:List HP)(bh:Nat)(h:HpS)(s:Dev)(hW:db h s)(hb:(s.block h.c).2=0)(room:Int):
 ∀ w,Holds B (bZ bh h::ax h.bd s::Fr) w→Calls Tryz.prog 29 [ptr bh,i64 room].toArray w (Ret B (fun rv H'=>∃ a h' s',h.begR s room a h' s'∧rv=i64 a∧H'=bZ bh h'::ax h.bd s'::Fr) (fun ch H'=>∃ s',(fun s'=>h.o=false∧h.c.space - (h.blk s).used<room∧HpS.colOff {h with X:=none} s s') s'∧ch=dh∧H'=ax h.bd s'::Fr)):=by
 refine ak func29 aa ntmps29 aa (dO fun bs bt x=> ?_)
 have hbk:=dB (s:=s) hW.c hW.u
 have hbu:0≤(h.blk s).used∧(h.blk s).used≤h.c.space:=hbk.used
 have hs2:=hW.c.s2
 have hs1':=hW.c.s1
 have hbu1:0≤(HpS.blk {h with X:=none} s).used∧(HpS.blk {h with X:=none} s).used≤h.c.space:=hbk.used
 have hW1:db {h with X:=none} s:=⟨hW.c,hW.k,hW.sw,hW.u,hW.t1,hW.tl,hW.tp,fun X h=>(by cases h)⟩
 refine ac (ab (kPa aa aa (ad (ac (aI (ac (ab (kPf cO isAgg119 aa aa aa aa (ap aa (ar call72 aa) (bF (q:=k7 h.o) (fun Fr=>fL B Fr bs h.S h.o)) .free aa aa ?_)))))))))
 refine kPa aa aa (ad ?_)
 refine aV aa (fun h7=> ?_) (fun h7=> ?_)
 ·have ho:h.o=true:=by simpa using h7
  refine ac (ab (kPa aa aa (ad (au ?_))))
  exact aq results29 aa (fun w hw=>⟨_,⟨2,h,s,.inl ⟨ho,rfl,rfl,rfl⟩,rfl,rfl⟩,ce (bs:=bs) (bt:=bt) (x:=x) hw⟩)
 ·have ho:h.o=false:=by simpa using h7
  refine aM [1] (aK (H':=dV bs h.S::_) (fun w hh=>by rw[ho] at hh;exact hh) (ac (ab (kPm aa aa (kPv (am aa aa aa) aa (kPa aa aa (ad (aj [13,4,0,1] rfl ?_))))))))
  refine aV aa (fun h13=> ?_) (fun h13=> ?_)
  ·have hr0:room<0:=by simpa using h13
   refine ac (ab (kPa aa aa (ad (au ?_))))
   exact aq results29 aa (fun w hw=>⟨_,⟨1,h,s,.inr (.inl ⟨ho,hr0,rfl,rfl,rfl⟩),rfl,rfl⟩,nw (bs:=bs) (bt:=bt) (x:=x) ho (hw.pk [1])⟩)
  ·have hr0:0≤room:=by simpa using h13
   refine aw (ac (ab (kPm aa aa (kPv (aF aa) aa (kPv (aC (m:=_) fB aa aa) aa ?_)))))
   refine kPs (aO sizeOf121 aa aa (by first | rfl | assumption) rfl) rfl ?_;refine ad ?_;refine ac ?_;refine ac ?_;refine aM [1] ?_;refine aK (H':=bX bh bs bt x {h with X:=none}::_) (fun w hh=>hh) ?_
   refine cQ [0,1,2,3,4,5,6,7,8,9,10] [7] [0,1,2,3,4,5] [7] [bX bh bs bt x {h with X:=none}] Tryz.mixed (by kernel_rfl) ?_
   refine an aa aa aa (al aa) .free aa (an aa aa aa (al aa) .free aa (an aa aa aa (aF aa) .free aa (an aa aa aa (aC (m:=_) c6 aa aa) .free aa (an aa aa aa (aC (m:=_) gD aa aa) .free aa (an aa aa aa (ag isAgg3 aa aa) .free aa (aT aa aa aa (al aa) .free aa (aS aa aa (aM [0,3] (aE aa (ar call73 aa) (eX B _ bh bs bt x {h with X:=none} s hW.c hW.u) .free aa aa ?_)))))))))
   rintro _ _ ⟨sv,hsv,rfl,rfl⟩
   refine cy fun qb cb hqb hqbi=> ?_
   subst hqb
   refine ad (cL (aT aa aa aa (ie runUnderlying125 (t:=3) (off:=1) aa isAgg3 aa aa) .free aa (aT aa aa aa (mP (c:=h.c.space - (h.blk s).used) aa aa (show IntKind.i64.wrap (h.c.space - (h.blk s).used)=_ from hG (by omega))) .free aa (aT aa aa aa (am aa aa aa) .free aa (cM (aj [29,4,0,1] rfl ?_))))))
   refine aV aa (fun h29=> ?_) (fun h29=> ?_)
   ·have hroom:(h.c.space - (h.blk s).used<room):=by simpa using h29
    refine aK (H':=bZ bh {h with X:=none}::ax h.bd s::Fr) (fun w hh=>th (h:={h with X:=none}) (bs:=bs) (bt:=bt) (x:=x) ho aa ((hh.dp [0,4]).pk [0,1,1])) (ac (ab (kPm aa aa ?_)))
    refine aQ aa (ar call36 aa) (l0 B _ bh {h with X:=none} s hW1 hb) .free aa aa ?_ ?_
    rotate_left
    ·rintro _ _ ⟨s9,hm9,rfl,rfl⟩
     exact aX fun w hh=>⟨_,⟨s9,⟨ho,hroom,hm9⟩,rfl,rfl⟩,(show Holds B (ax h.bd s9::_) w from hh)⟩
    rintro _ _ ⟨a1,h1,s1,hr1,rfl,rfl⟩
    obtain⟨hW2,ho2,hx2,hbd2,hc2⟩:=DW hW1 ho hr1
    have hbd3:h1.bd=h.bd:=hbd2
    have hc3:h1.c=h.c:=hc2
    refine kPa aa aa (ad (ac (ab (kPm aa aa (kPv (am aa aa aa) aa (ad ?_))))))
    refine aV aa (fun h33=> ?_) (fun h33=> ?_)
    ·have ha1:a1≠0:=by simpa using h33
     refine ac (ab (kPm aa aa (kPa aa aa (ad (aj [4,0,1] rfl (au ?_))))))
     exact aq results29 aa (fun w hw=>⟨_,⟨a1,h1,s1,.inr (.inr ⟨ho,hr0,a1,h1,s1,.inl ⟨hroom,hr1⟩,.inl ⟨ha1,rfl,rfl,rfl⟩⟩),rfl,rfl⟩,hw⟩)
    ·have ha1:a1=0:=by simpa using h33
     refine aw (ac (dO fun bs2 bt2 x2=>(aM [0,3] (aK (H':=bX bh bs2 bt2 x2 h1::ax h1.bd s1::_) (fun w hh=>by rw[hbd3];exact hh) ?_))))
     have hbk2:=dB (s:=s1) hW2.c hW2.u
     have hbu2:0≤(h1.blk s1).used∧(h1.blk s1).used≤h1.c.space:=hbk2.used
     have hs3:=hW2.c.s2
     refine ab (kPm aa aa (aE aa (ar call73 aa) (eX B _ bh bs2 bt2 x2 h1 s1 hW2.c hW2.u) .free aa aa ?_))
     rintro _ _ ⟨sv,hsv,rfl,rfl⟩
     refine cy fun qb cb hqb hqbi=> ?_
     subst hqb
     refine kPb (aD zeroValue125 aa) aa fun b6=> ?_
     refine kPs (aA (vs:=_) sizeOf125 aa aa aa (by first | rfl | exact eB (by assumption)) rfl) rfl ?_;refine ad ?_;refine aj [6,4,0,1] rfl ?_;refine ac ?_;refine ac ?_;refine aK (H':=row b6 [i64 (h1.blk s1).act,i64 (h1.blk s1).used,.slice qb (h1.blk s1).rts.length cb] 125::_) (fun w hh=>hh) ?_;refine cN Tryz.mixed (by kernel_rfl) (by kernel_rfl) ?_;refine kQm aa aa ?_
     refine kQm aa aa (kQv (aF aa) aa (kQv (aC (m:=_) c6 aa aa) aa (kQv (aC (m:=_) gD aa aa) aa (kQv (ag isAgg3 aa aa) aa (kQv (aC (m:=_) dM aa aa) aa (kQv (ag isAgg3 aa aa) aa (kQv (fF aa aa) aa (kQv (am aa aa aa) aa (bM (aj [46,6,4,0] rfl ?_))))))))))
     refine aV aa (fun h46=> ?_) (fun h46=> ?_)
     ·have hr2:h.c.space - (h1.blk s1).used<room:=by rw[←hc3];simpa using h46
      refine ac (ab (kPa aa aa (ad (au ?_))))
      exact aq results29 aa (fun w hw=>⟨_,⟨4,h1,s1,.inr (.inr ⟨ho,hr0,a1,h1,s1,.inl ⟨hroom,hr1⟩,.inr (.inl ⟨ha1,hr2,rfl,rfl,rfl⟩)⟩),rfl,rfl⟩,by
   have h9:=ce (h:=h1) (bs:=bs2) (bt:=bt2) (x:=x2) ((hw.dp [0,0]).pk [0,1,1,1])
   rw[hbd3] at h9;exact h9⟩)
     ·have hr2:¬ h.c.space - (h1.blk s1).used<room:=by rw[←hc3];simpa using h46
      refine aM [4] (aK (H':=dV bs2 h1.S::_) (fun w hh=>by rw[ho2] at hh;exact hh) (aw (ac (cH 10 Tryz.mixed (by kernel_rfl) (by kernel_rfl) ?_))))
      refine kQm aa aa (kQv (aF aa) aa (kQv (aC (m:=_) cO aa aa) aa (kQv (ag isAgg119 aa aa) aa (kQm aa aa (kQv (aF aa) aa (kQv (aC (m:=_) c6 aa aa) aa (kQv (ah isAgg39 sizeOf39 aa aa) aa ?_)))))))
      refine kQv (ah isAgg125 sizeOf125 aa aa) aa ?_
      refine bj aa (ar call75 aa) (tA _ _ h1.c hW2.c (h1.blk s1) (.slice qb (h1.blk s1).rts.length cb) hbk2 aa) .free aa ?_
      refine bM (de aa (ar call74 aa) (jx B _ bs2 h1.S _ _) .free aa aa ?_)
      refine kPa aa aa (ad (aj [4] rfl (au ?_)))
      exact aq results29 aa (fun w hw=>⟨_,⟨0,h1.opened s1,s1,.inr (.inr ⟨ho,hr0,a1,h1,s1,.inl ⟨hroom,hr1⟩,.inr (.inr ⟨ha1,hr2,rfl,rfl,rfl⟩)⟩),rfl,rfl⟩,by
   have h9:=jX rfl (h:=h1.opened s1) (bs:=bs2) (bt:=bt2) (x:=x2) ((hw.dp [1,1]).pk [1,0,1,1])
   rw[hbd3] at h9;exact h9⟩)
   ·have hroom:¬ (h.c.space - (h.blk s).used<room):=by simpa using h29
    obtain⟨h1,hh1⟩:∃ h1:HpS,h1={h with X:=none}:=⟨_,rfl⟩
    obtain⟨s1,hs1⟩:∃ s1,s1=s:=⟨_,rfl⟩
    obtain⟨a1,ha1⟩:∃ a1:Int,a1=0:=⟨_,rfl⟩
    have hW2:db h1 s1:=by rw[hh1,hs1];exact hW1
    have ho2:h1.o=false:=by rw[hh1];exact ho
    have hbd3:h1.bd=h.bd:=by rw[hh1]
    have hc3:h1.c=h.c:=by rw[hh1]
    refine aK (H':=bZ bh h1::ax h.bd s1::Fr) (fun w hh=>by rw[hh1,hs1];exact th (h:={h with X:=none}) (bs:=bs) (bt:=bt) (x:=x) ho aa ((hh.dp [0,4]).pk [0,1,1])) (aw (ac (dO fun bs2 bt2 x2=>(aM [0,3] (aK (H':=bX bh bs2 bt2 x2 h1::ax h1.bd s1::_) (fun w hh=>by rw[hbd3];exact hh) ?_)))))
    have hbk2:=dB (s:=s1) hW2.c hW2.u
    have hbu2:0≤(h1.blk s1).used∧(h1.blk s1).used≤h1.c.space:=hbk2.used
    have hs3:=hW2.c.s2
    refine ab (kPm aa aa (aE aa (ar call73 aa) (eX B _ bh bs2 bt2 x2 h1 s1 hW2.c hW2.u) .free aa aa ?_))
    rintro _ _ ⟨sv,hsv,rfl,rfl⟩
    refine cy fun qb cb hqb hqbi=> ?_
    subst hqb
    refine kPb (aD zeroValue125 aa) aa fun b6=> ?_
    refine kPs (aA (vs:=_) sizeOf125 aa aa aa (by first | rfl | exact eB (by assumption)) rfl) rfl ?_;refine ad ?_;refine ac ?_;refine ac ?_;refine aK (H':=row b6 [i64 (h1.blk s1).act,i64 (h1.blk s1).used,.slice qb (h1.blk s1).rts.length cb] 125::_) (fun w hh=>hh) ?_;refine cN Tryz.mixed (by kernel_rfl) (by kernel_rfl) ?_;refine kQm aa aa ?_;refine kQm aa aa ?_
    refine kQv (aF aa) aa (kQv (aC (m:=_) c6 aa aa) aa (kQv (aC (m:=_) gD aa aa) aa (kQv (ag isAgg3 aa aa) aa (kQv (aC (m:=_) dM aa aa) aa (kQv (ag isAgg3 aa aa) aa (kQv (fF aa aa) aa (kQv (am aa aa aa) aa (bM (aj [46,6,4,0] rfl ?_)))))))))
    refine aV aa (fun h46=> ?_) (fun h46=> ?_)
    ·have hr2:h.c.space - (h1.blk s1).used<room:=by rw[←hc3];simpa using h46
     refine ac (ab (kPa aa aa (ad (au ?_))))
     exact aq results29 aa (fun w hw=>⟨_,⟨4,h1,s1,.inr (.inr ⟨ho,hr0,a1,h1,s1,.inr ⟨hroom,ha1,hh1,hs1⟩,.inr (.inl ⟨ha1,hr2,rfl,rfl,rfl⟩)⟩),rfl,rfl⟩,by
   have h9:=ce (h:=h1) (bs:=bs2) (bt:=bt2) (x:=x2) ((hw.dp [0,0]).pk [0,1,1,1])
   rw[hbd3] at h9;exact h9⟩)
    ·have hr2:¬ h.c.space - (h1.blk s1).used<room:=by rw[←hc3];simpa using h46
     refine aM [4] (aK (H':=dV bs2 h1.S::_) (fun w hh=>by rw[ho2] at hh;exact hh) (aw (ac (cH 10 Tryz.mixed (by kernel_rfl) (by kernel_rfl) ?_))))
     refine kQm aa aa (kQv (aF aa) aa (kQv (aC (m:=_) cO aa aa) aa (kQv (ag isAgg119 aa aa) aa (kQm aa aa (kQv (aF aa) aa (kQv (aC (m:=_) c6 aa aa) aa (kQv (ah isAgg39 sizeOf39 aa aa) aa ?_)))))))
     refine kQv (ah isAgg125 sizeOf125 aa aa) aa ?_
     refine bj aa (ar call75 aa) (tA _ _ h1.c hW2.c (h1.blk s1) (.slice qb (h1.blk s1).rts.length cb) hbk2 aa) .free aa ?_
     refine bM (de aa (ar call74 aa) (jx B _ bs2 h1.S _ _) .free aa aa ?_)
     refine kPa aa aa (ad (aj [4] rfl (au ?_)))
     exact aq results29 aa (fun w hw=>⟨_,⟨0,h1.opened s1,s1,.inr (.inr ⟨ho,hr0,a1,h1,s1,.inr ⟨hroom,ha1,hh1,hs1⟩,.inr (.inr ⟨ha1,hr2,rfl,rfl,rfl⟩)⟩),rfl,rfl⟩,by
   have h9:=jX rfl (h:=h1.opened s1) (bs:=bs2) (bt:=bt2) (x:=x2) ((hw.dp [1,1]).pk [1,0,1,1])
   rw[hbd3] at h9;exact h9⟩)
inductive Cal where
 | begin (r:Int) | commit | abort | alloc (w r:Int) | head (n:Int) | read (n i:Int) | write (n i v:Int) | ref (n i:Int) | point (n i t:Int) | root (i:Int) | set (i t:Int) | drop (n:Int) | step (n:Int) | collect
def bI(b:Bool):Int:=if b=true then 1 else 0
def HpS.does(h:HpS)(s:Dev)(x:List Int)(h':HpS)(s':Dev):Cal→Prop
 | .begin r=>∃ a,h.begR s r a h' s'∧x=[a]
 | .commit=>∃ a,h.commit s= .ok (a,h') s'∧x=[a]
 | .abort=>∃ a,h.abortR s a h' s'∧x=[a]
 | .alloc w r=>∃ a,h.alloc s w r= .ok (a,h') s'∧x=[a.1,a.2]
 | .head n=>x=[(h.obj s n).1.1,(h.obj s n).1.2.1,(h.obj s n).2]∧h'=h∧s'=s
 | .read n i=>x=[(h.read s n i).1,(h.read s n i).2]∧h'=h∧s'=s
 | .write n i v=>∃ a,h.write s n i v= .ok (a,h') s'∧x=[a]
 | .ref n i=>x=[(h.ref s n i).1.1,(h.ref s n i).1.2]∧h'=(h.ref s n i).2∧s'=s
 | .point n i t=>∃ a,h.point s n i t= .ok (a,h') s'∧x=[a]
 | .root i=>x=[(h.root s i).1.1,(h.root s i).1.2]∧h'=(h.root s i).2∧s'=s
 | .set i t=>∃ a,h.setRoot s i t= .ok (a,h') s'∧x=[a]
 | .drop n=>x=[if (bG h.T.at_ n).isSome=true then 0 else 6]∧h'={h with T:=h.T.drop n}∧s'=s
 | .step n=>∃ d a,h.stepR s n d a h' s'∧x=[bI d,a]
 | .collect=>∃ a,h.colR s a h' s'∧x=[a]
def HpS.cuts(h:HpS)(s s':Dev):Cal→Prop
 | .begin r=>h.o=false∧h.c.space - (h.blk s).used<r∧HpS.colOff {h with X:=none} s s'
 | .commit=>h.commit s= .off s'
 | .abort=>h.S.abort s= .off s'
 | .alloc w r=>h.alloc s w r= .off s'
 | .write n i v=>h.write s n i v= .off s'
 | .point n i t=>h.point s n i t= .off s'
 | .set i t=>h.setRoot s i t= .off s'
 | .step n=>h.stepOff s n s'
 | .collect=>h.colOff s s'
 | _=>False
theorem Bo{B:World}{n:Nat}{D:List Deferred}{σ:Env}{b:Nat}{o:Bool}{S:bD}{Fr:List HP}{K:Act→World→Prop}(h:∀ bl o1 o2 M,(∀ Fr w,Holds B (dy b bl S o o1 o2::dm bl S.L::M::Fr) w→Holds B (k7 o b S::Fr) w)→GO B n D σ (dy b bl S o o1 o2::dm bl S.L::M::Fr) K):GO B n D σ (k7 o b S::Fr) K:=by
 cases o
 ·refine jJ fun bl o1 o2=> ?_
  refine aK (fun w hh=>(hh.unpr (p:=True) trivial).back 2 (by simp)) (h bl o1 o2 (pr True) fun Fr w hh=> ?_)
  exact dN ((hh.front 2 aa).pr.2)
 ·refine l3 fun bl o1 o2=> ?_
  refine aK (H':=dy b bl S true (some o1) (some o2)::dm bl S.L::grp [bB .i64 cj o1 S.seen,bB .i64 cj o2 S.dirty]::Fr) (fun w hh=> ?_) (h bl _ _ _ fun Fr w hh=> ?_)
  ·exact(Holds.ungrp (l:=[bB .i64 cj o1 S.seen,bB .i64 cj o2 S.dirty]) ((hh.front 2 aa).front 3 aa |>.front 1 aa)).back 2 (by simp)
  ·exact fH ((((hh.front 2 aa).grp).front 2 aa).front 3 aa |>.front 1 aa)
structure uf where
 used:Int
 reached:Int
 handles:Int
 records:Int
 open_:Bool
def HpS.stats(h:HpS)(s:Dev):uf:=⟨(h.blk s).used,s.reachSize h.c (h.blk s) (h.words++(h.blk s).rts),h.T.at_.length,h.S.L.n,h.o⟩
abbrev B3(x:uf):Value:= .agg #[i64 x.used,i64 x.reached,i64 x.handles,i64 x.records,.bool x.open_]
theorem xd(B:World)(Fr:List HP)(bs bl:Nat)(S:bD)(o:Bool)(o1 o2:Option Nat):
 ∀ w,Holds B (dy bs bl S o o1 o2::Fr) w→Calls Tryz.prog 72 [ptr bs].toArray w (aZ B (dy bs bl S o o1 o2::Fr) (.bool o)):=by
 refine ak func72 aa ntmps72 aa (ac (ab (kPa aa aa (ad (ac (ab (kPf dL isAgg4 aa aa aa aa (kPa aa aa (ad (au ?_))))))))))
 exact aq results72 aa (fun w hw=>⟨rfl,hw⟩)
theorem mJ(B:World)(Fr:List HP)(bh:Nat)(h:HpS)(s:Dev)(hW:db h s):
 ∀ w,Holds B (bZ bh h::ax h.bd s::Fr) w→Calls Tryz.prog 35 [ptr bh].toArray w (aZ B (bZ bh h::ax h.bd s::Fr) (B3 (h.stats s))):=by
 refine ak func35 aa ntmps35 aa (dO fun bs bt x=>(aM [1] (Bo fun bl o1 o2 M hM=>(aM [3] ?_))))
 have hbk:=dB (s:=s) hW.c hW.u
 have hbl:(h.blk s).rts.length≤16:=fc (s:=s) hW.c
 obtain⟨hwb,hwl⟩:=HpS.words_b hW
 have hwb2:∀ v∈h.words++(h.blk s).rts,0≤v∧v<18446744073709551616:=fun v hv=>(List.mem_append.1 hv).elim (hwb v) (fQ hW.u v)
 refine ac (ab (kPb (aD zeroValue67 aa) aa fun b2=>(ad (ac (ab (kPm aa aa (aM [1,6] (aE aa (ar call73 aa) (eX B _ bh bs bt x h s hW.c hW.u) .free aa aa ?_))))))))
 rintro _ _ ⟨sv,hsv,rfl,rfl⟩
 refine cy fun qb cb hqb hqbi=> ?_
 subst hqb
 refine kPb (aD zeroValue125 aa) aa fun b3=> ?_
 refine kPs (aA (vs:=_) sizeOf125 aa aa aa (by first | rfl | exact eB (by assumption)) rfl) rfl ?_;refine ad ?_;refine ac ?_;refine aK (H':=row b3 [i64 (h.blk s).act,i64 (h.blk s).used,.slice qb (h.blk s).rts.length cb] 125::_) (fun w hh=>hh) ?_
 refine cQ [0,1,2,3,4,5,6,7,8,9,10,11,14,15,16,17,20,21,22,23,24,25,26,28,29,30,31,12,13,18,19,27,32,33,34] [12,13,18,27,32,34] [0,1,2,3,4,5,6,7,8,9,10,14,15,16,17,20,21,22,23,24,25,26,28,29,30,31,19] [12,13,18,27,32] [bX bh bs bt x h,row b3 [i64 (h.blk s).act,i64 (h.blk s).used,.slice qb (h.blk s).rts.length cb] 125,dy bs bl h.S h.o o1 o2] Tryz.mixed (by kernel_rfl) ?_
 refine an aa aa aa (aC (m:=_) dM aa aa) .free aa (an aa aa aa (ag isAgg3 aa aa) .free aa (an aa aa aa (al aa) .free aa (an aa aa aa (aF aa) .free aa (an aa aa aa (aC (m:=_) eQ aa aa) .free aa (an aa aa aa (ag isAgg53 aa aa) .free aa (an aa aa aa (al aa) .free aa (an aa aa aa (aF aa) .free aa (an aa aa aa (aC (m:=_) c6 aa aa) .free aa (an aa aa aa (ah isAgg39 sizeOf39 aa aa) .free aa ?_)))))))))
 refine an aa aa aa (ah isAgg125 sizeOf125 aa aa) .free aa ?_
 refine aT aa aa aa (al aa) .free aa (an aa aa aa (al aa) .free aa (an aa aa aa (aF aa) .free aa (an aa aa aa (aC (m:=_) eP aa aa) .free aa (an aa aa aa (ag isAgg120 aa aa) .free aa (an aa aa aa (al aa) .free aa (an aa aa aa (aF aa) .free aa (an aa aa aa (aC (m:=_) cO aa aa) .free aa (an aa aa aa (ag isAgg119 aa aa) .free aa (an aa aa aa (aF aa) .free aa (an aa aa aa (aC (m:=_) ix aa aa) .free aa (an aa aa aa (ag isAgg141 aa aa) .free aa ?_)))))))))))
 refine an aa aa aa (al aa) .free aa (an aa aa aa (aF aa) .free aa (an aa aa aa (aC (m:=_) cO aa aa) .free aa (an aa aa aa (ag isAgg119 aa aa) .free aa (aS aa aa (aM [2,7,2] (aE aa (ar call86 aa) (Bm B _ bh bs bt x h s hW) .free aa aa ?_))))))
 rintro av _ ⟨hav,rfl⟩
 refine cy fun qa ca hqa hqai=> ?_
 subst hqa
 refine ad (cL (aM [3] (aS aa aa (ap aa (ar call85 aa) (n4 B _ h.bd h.c hW.c (h.blk s) (.slice qb (h.blk s).rts.length cb) hbk aa s qa ca (h.words++(h.blk s).rts) hwb2 (by simp;omega) hqai (cP (1 - 1) aa)) .free aa aa ?_))))
 refine ad (cL (aS aa aa (aM [3] (aE aa (ar call87 aa) (nu B _ bt h.T (by have:=hW.tl;omega)) .free aa aa ?_))))
 rintro rv _ rfl
 refine aK (fun w hh=>uc hh) (cy fun qn cn hqn hqi=> ?_)
 subst hqn
 refine ad (cL (an aa aa aa (bS aa runUnderlying59 ⟨_,rfl⟩ rfl) .free aa (aS aa aa (ap aa (ar call88 aa) (bF (q:=dm) (fun Fr=>vV _ Fr bl h.S.L)) .free aa aa ?_))))
 refine ad (cL (aM [8] (aS aa aa (ap aa (ar call72 aa) (xd B _ bs bl h.S h.o o1 o2) .free aa aa ?_))))
 refine ad (cL (aT aa aa aa (aR aa (mY _ _ _ _ _ aa aa aa aa aa)) .free aa (aS aa aa (kPs (aA (vs:=_) sizeOf67 aa aa aa aa aa) aa (ad (cZ aa (cM (aj [2] rfl (au ?_)))))))))
 exact qg results35 (.cellA aa isAgg67 sizeOf67 aa aa) (fun w hw=>⟨by simp[HpS.stats,cq];rfl,ce (bs:=bs) (bt:=bt) (x:=x) ((hM _ _ ((hw.dp [1,3,4,4,4]).pk [0,3,3,2,0,1])).front 1 aa)⟩)
theorem uF{s:Dev}(h:s.pow.lim<0):s.pow.out=false:=by unfold Pow.out;simp;omega
theorem sg{s:Dev}(h:s.pow.lim<0)(i v:Int):∃ a s',s.store i v= .ok a s'∧s'.pow.lim<0:=by
 unfold Dev.store
 split
 ·exact⟨_,_,rfl,h⟩
 ·rw[if_neg (by rw[uF h];decide)];exact⟨_,_,rfl,h⟩
theorem tC{s:Dev}(h:s.pow.lim<0)(i:Int):∃ a s',s.flush i= .ok a s'∧s'.pow.lim<0:=by
 unfold Dev.flush
 split
 ·exact⟨_,_,rfl,h⟩
 ·rw[if_neg (by rw[uF h];decide)];exact⟨_,_,rfl,h⟩
theorem tE{s:Dev}(h:s.pow.lim<0):∃ s',s.fence= .ok () s'∧s'.pow.lim<0:=by
 unfold Dev.fence
 rw[if_neg (by rw[uF h];decide)];exact⟨_,rfl,h⟩
theorem vM{c:Cfg}:∀ (k:Nat) (s:Dev),s.pow.lim<0→∃ s',kZ jU c k s= .ok () s'∧s'.pow.lim<0
 | 0,s,h=>⟨s,rfl,h⟩
 | k+1,s,h=>by
   unfold kZ jU
   obtain⟨a,s1,e1,h1⟩:=sg h (IntKind.i64.wrap (s.load (c.record k+1))) (s.load (c.record k+2))
   obtain⟨a2,s2,e2,h2⟩:=tC h1 (IntKind.i64.wrap (s.load (c.record k+1)))
   rw[e1]
   simp only[aU]
   rw[e2]
   simp only[aU]
   exact vM k s2 h2
theorem r7{L:bT}{s:Dev}(h:s.pow.lim<0):∃ L' s',L.truncate s= .ok L' s'∧s'.pow.lim<0:=by
 unfold bT.truncate
 split
 ·exact⟨_,_,rfl,h⟩
 ·obtain⟨a,s1,e1,h1⟩:=sg h 8 ((L.epoch+1)%4294967296)
  obtain⟨a2,s2,e2,h2⟩:=tC h1 8
  obtain⟨s3,e3,h3⟩:=tE h2
  rw[e1];simp only[aU];rw[e2];simp only[aU];rw[e3]
  exact⟨_,_,rfl,h3⟩
theorem AL{L:bT}{s:Dev}(h:s.pow.lim<0):∃ L' s',L.undo s= .ok L' s'∧s'.pow.lim<0:=by
 unfold bT.undo
 obtain⟨s1,e1,h1⟩:=vM (c:=L.c) L.n.toNat s h
 rw[e1]
 simp only[aU]
 split
 ·obtain⟨s2,e2,h2⟩:=tE h1
  rw[e2];exact r7 h2
 ·exact r7 h1
def cpD(s:Dev)(pa:Nat):Dev:=⟨pa,⟨-1,0⟩,s.n,fun i=>(tab s.n s.now).getD i 0,fun i=>(tab s.n s.now).getD i 0,fun _=>none⟩
theorem Cd{s:Dev}(hu:U64 s)(pa:Nat):U64 (cpD s pa):=fun i=>by
 show 0≤(tab s.n s.now).getD i 0∧(tab s.n s.now).getD i 0<_
 by_cases hi:i<s.n
 ·have e:tab s.n s.now=(List.range s.n).map s.now:=rfl
  rw[e,List.getD_eq_getElem?_getD]
  simp[hi];exact hu i
 ·rw[List.getD_eq_getElem?_getD,List.getElem?_eq_none (by rw[aW];omega)];decide
theorem SlR.tb{B:World}{H:List HP}{n b cap:Nat}{f:Nat→Value}{rest:List Value}{T:TypeId}{U:List Value→List HP}[fK H b (tab n f++rest) T U]:SlR B H (.slice (some ⟨b,0,none⟩) n cap) (tab n f):=
 SlR.row (cs:=Proofs.YtipdhkmphngmoaaGreatDoor.tab n f++rest) (T:=T) (U:=U) (by rw[List.drop_zero,List.take_append_of_le_length (by rw[aW];omega),List.take_of_length_le (by rw[aW];omega)]) (by rw[aW])
theorem AW{s:Dev}(h:s.readC.2=0):bx s.readC.1∧(s.n:Int)=s.readC.1.words:=by
 unfold Dev.readC at h ⊢
 split at h
 ·cases h
 split at h
 ·cases h
 split at h
 ·cases h
 ·rename_i h1 h2 h3
  rw[if_neg h1,if_neg h2,if_neg h3]
  simp only
  constructor
  ·exact Classical.byContradiction fun h4=>h3 (.inl h4)
  ·exact Classical.byContradiction fun h4=>h3 (.inr h4)
def gi(bd:Nat)(s:Dev)(e:Int):Prop:=
 (s.readC.2≠0∧e=s.readC.2)∨(s.readC.2=0∧0≤jY s s.readC.1 (bP bd s.readC.1 s).n.toNat 0∧e=9)∨
 (s.readC.2=0∧jY s s.readC.1 (bP bd s.readC.1 s).n.toNat 0<0∧∃ bc pa L1 t1,(bP bc s.readC.1 (cpD s pa)).undo (cpD s pa)= .ok L1 t1∧e=t1.check s.readC.1)
def cz(bd:Nat)(c:Cfg)(s:Dev):HpS:=⟨bd,c,⟨bP bd c s,0,0,[],[]⟩,false,⟨[],[],0⟩,none⟩
theorem qE(B:World)(Fr:List HP)(bd:Nat)(s:Dev)(hu:U64 s)(hn:s.n≤100000):
 ∀ w,Holds B (ax bd s::Fr) w→Calls Tryz.prog 48 [ptr bd].toArray w (Ret B (fun rv H'=>(∃ e,e≠0∧gi bd s e∧rv= .tuple #[.pointer none,i64 e]∧H'=ax bd s::Fr)∨(∃ bh L' s',gi bd s 0∧(bP bd s.readC.1 s).undo s= .ok L' s'∧rv= .tuple #[ptr bh,i64 0]∧H'=bZ bh (cz bd s.readC.1 s')::ax bd s'::Fr)) (fun ch H'=>∃ s',gi bd s 0∧(bP bd s.readC.1 s).undo s= .off s'∧ch=dh∧H'=ax bd s'::Fr)):=by
 refine ak func48 aa ntmps48 aa (kt bd fun hn1 hn2 hn3=>(ac (ab (kPa aa aa (kPa aa aa (ad (ac (ab (kPm aa aa (ap aa (ar call109 aa) (bF (q:=ax) (fun Fr=>rq _ Fr bd s)) .free aa aa ?_))))))))))
 refine kPm aa aa (kPv (az aa aa) aa (kPv (az aa aa) aa (kPb (aD zeroValue39 aa) aa fun b4=>(kPs (aA (vs:=_) sizeOf39 aa aa aa aa aa) aa (kPa aa aa (ad (ac (ac (ab (kPm aa aa (kPv (am aa aa aa) aa ?_)))))))))))
 refine ad ?_
 refine aV aa (fun h15=> ?_) (fun h15=> ?_)
 ·have hc0:s.readC.2≠0:=by simpa using h15
  refine ac (ab (kPm aa aa (kPa aa aa (kPa aa aa (ad (aj [3,2,4,0] rfl (au ?_)))))))
  exact bz results48 aa aa (fun w hw=>⟨_,.inl ⟨_,hc0,.inl ⟨hc0,rfl⟩,rfl,rfl⟩,(hw.dp [0])⟩)
 ·have hc0:s.readC.2=0:=by simpa using h15
  have hc:=(AW hc0).1
  have hLw:dR (bP bd s.readC.1 s):=iE hc
  refine aw (ac (ab (kPm aa aa (kPv (ah isAgg39 sizeOf39 aa aa) aa ?_))))
  refine aM [1] (aE aa (ar call110 aa) (ki B _ bd s s.readC.1 hc) .free aa aa ?_)
  rintro _ _ ⟨bl,rfl,rfl⟩
  refine kPa aa aa (ad (aj [6,4,3,2,0] rfl (ac (ac (ab (kPm aa aa (ap aa (ar call111 aa) (zo B _ bl (bP bd s.readC.1 s) s hLw) .free aa aa ?_)))))))
  refine kPv (am aa aa aa) aa (ad ?_)
  refine aV aa (fun h22=> ?_) (fun h22=> ?_)
  ·have hg:0≤jY s s.readC.1 (bP bd s.readC.1 s).n.toNat 0:=by
    have h9:0≤jY s (bP bd s.readC.1 s).c (bP bd s.readC.1 s).n.toNat 0:=by simpa using h22
    exact h9
   refine ac (ab (kPa aa aa (kPa aa aa (ad (au ?_)))))
   exact bz results48 aa aa (fun w hw=>⟨_,.inl ⟨9,by decide,.inr (.inl ⟨hc0,hg,rfl⟩),rfl,rfl⟩,(hw.dp [0,1])⟩)
  ·have hg:jY s s.readC.1 (bP bd s.readC.1 s).n.toNat 0<0:=by
    have h9:jY s (bP bd s.readC.1 s).c (bP bd s.readC.1 s).n.toNat 0<0:=by simpa using h22
    exact h9
   refine aw (ac (ab (aE aa (ar call56 aa) (jA _ _ _) .free aa aa ?_)))
   rintro _ _ ⟨pb,rfl,rfl⟩
   refine kPm aa aa (aM [2] (aE aa (ar call112 aa) (xu _ _ bd s) .free aa aa ?_))
   rintro _ _ ⟨bw,rest,rfl,rfl⟩
   refine aM [2] (aE aa (ar call55 aa) (ru B _ pb ⟨-1,0⟩ _ (tab s.n s.now) (by rw[aW];omega) (by rw[aW];omega) (by rw[lK];exact SlR.tb)) .free aa aa ?_)
   rintro _ _ ⟨bc,rfl,rfl⟩
   refine aK (H':=ax bc (cpD s pb)::_) (fun w hh=>by unfold cpD;rw[aW,show(s.n+7) / 8*8=s.n by omega] at hh;exact hh) ?_
   obtain⟨L1,t1,hu1,_⟩:=AL (s:=cpD s pb) (L:=bP bc s.readC.1 (cpD s pb)) (show(-1:Int)<0 by decide)
   have hk1:=yp (iE hc) hu1
   have hut1:=hk1.1 (Cd hu pb)
   refine kPa aa aa (ad (aj [7,6,4,3,2,0] rfl (ac (ab (kPm aa aa (kPv (ah isAgg39 sizeOf39 aa aa) aa ?_))))))
   refine aE aa (ar call110 aa) (ki B _ bc (cpD s pb) s.readC.1 hc) .free aa aa ?_
   rintro _ _ ⟨bl2,rfl,rfl⟩
   refine aQ aa (ar call113 aa) (o3 B _ bl2 (bP bc s.readC.1 (cpD s pb)) (cpD s pb) (iE hc)) .free aa aa ?_ ?_
   rotate_left
   ·rintro _ _ ⟨s9,hm9, -, -⟩
    cases hu1.symm.trans hm9
   rintro _ _ ⟨L9,t9,hm9,rfl,rfl⟩
   cases hu1.symm.trans hm9
   refine aK (H':=dm bl2 _::ax bc t1::_) (fun w hh=>hh) (ad (ac (ac (aM [1] (ab (kPm aa aa (kPv (ah isAgg39 sizeOf39 aa aa) aa ?_)))))))
   refine ap aa (ar call114 aa) (kY B _ bc t1 s.readC.1 hc hut1) .free aa aa ?_
   refine kPa aa aa (ad (aj [8,6,4,3,2,0] rfl (ac (ab (kPm aa aa (kPv (am aa aa aa) aa (ad ?_)))))))
   refine aV aa (fun h35=> ?_) (fun h35=> ?_)
   ·have hk:t1.check s.readC.1≠0:=by simpa using h35
    refine ac (ab (kPm aa aa (kPa aa aa (kPa aa aa (ad (au ?_))))))
    exact bz results48 aa aa (fun w hw=>⟨_,.inl ⟨_,hk,.inr (.inr ⟨hc0,hg,bc,pb,L1,t1,hu1,rfl⟩),rfl,rfl⟩,(hw.dp [0,0,0,1,1])⟩)
   ·have hk:t1.check s.readC.1=0:=by simpa using h35
    have hE:gi bd s 0:= .inr (.inr ⟨hc0,hg,bc,pb,L1,t1,hu1,hk.symm⟩)
    refine aw (ac (ab (kPm aa aa (aM [4,3] ?_))))
    refine aQ aa (ar call113 aa) (o3 B _ bl (bP bd s.readC.1 s) s hLw) .free aa aa ?_ ?_
    rotate_left
    ·rintro _ _ ⟨s9,hm9,rfl,rfl⟩
     exact aX fun w hh=>⟨_,⟨s9,hE,hm9,rfl,rfl⟩,(show Holds B (dm bl _::ax bd s9::_) w from hh).dp [0,1,1,1,1]⟩
    rintro _ _ ⟨L3,s2,hm3,rfl,rfl⟩
    refine aK (H':=dm bl _::ax bd s2::_) (fun w hh=>hh) (ad (ac (aM [5] (aK (H':=row b4 [i64 s.readC.1.log,i64 s.readC.1.roots,i64 s.readC.1.space] 39::_) (fun w hh=>hh) (cQ [0,1,2,3,4,5,6,7,8,9] [4,5,7] [0,1] [4,5] [row b4 [i64 s.readC.1.log,i64 s.readC.1.roots,i64 s.readC.1.space] 39] Tryz.mixed (by kernel_rfl) ?_)))))
    refine an aa aa aa (al aa) .free aa (an aa aa aa (ah isAgg39 sizeOf39 aa aa) .free aa ?_)
    refine aT aa aa aa (al aa) .free aa (aT aa aa aa (ah isAgg39 sizeOf39 aa aa) .free aa ?_)
    refine aS aa aa (aM [2] (aE aa (ar call115 aa) (rj B _ bd s2 s.readC.1 hc) .free aa aa ?_))
    rintro _ _ ⟨bs,rfl,rfl⟩
    refine ad (cL (aS aa aa (aE aa (ar call116 aa) (wj _ _) .free aa aa ?_)))
    rintro _ _ ⟨bt,rfl,rfl⟩
    refine ad (cL ?_)
    refine aT aa aa aa (aR aa (nG _ _ _ _ _ _ (by first | rfl | assumption) (by first | rfl | assumption) (by first | rfl | assumption))) .free rfl ?_;refine aS aa aa ?_;refine kPb (aY aa) aa fun b46=> ?_;refine ad ?_;refine cZ aa ?_;refine aT aa aa aa (bE aa) .free aa ?_;refine aT aa aa aa (bE aa) .free aa ?_;refine cM ?_;refine aj [3,2] rfl ?_;refine au ?_
    exact bz results48 aa aa (fun w hw=>⟨_,.inr ⟨b46,L3,s2,hE,hm3,rfl,rfl⟩,th (h:=cz bd s.readC.1 s2) (bs:=bs) (bt:=bt) (x:=0) aa aa ((hw.dp [4,4,4,4,4]).pk [0,1])⟩)
def BJ(e:Int):List UInt8:=[101,114,114,111,114,32]++Lib.itoa e
def sQ(n e:Int):List UInt8:=if e≠0 then BJ e else Lib.decDigits n.toNat
def okS(e:Int):List UInt8:=if e≠0 then BJ e else [111,107]
def j9(n:Int):Int:=if 2147483648<n then -1 else n
abbrev SmE(e:Int):Prop:=0≤e∧e≤100
theorem gN{n:Int}(h:0≤n∧n<18446744073709551616):(Lib.itoa n).length≤20:=by
 unfold Lib.itoa
 rw[if_neg (by omega)]
 exact pC n.toNat (by omega)
theorem Cn{B:World}{H:List HP}[cF H B](gl:GL B){w:World}(hw:Holds B H w):Lib.TabIs Tryz.prog w "internal/strconv.uint64pow10" .u64 Lib.pow10Tab:=by
 have h:=gl.pow
 unfold Lib.TabIs World.var? at*
 cases hg:Tryz.prog.globalNamed "internal/strconv.uint64pow10" with
 | none=>rw[hg] at h;cases h
 | some g=>
   rw[hg] at h
   simp only[Option.bind_some] at h ⊢
   cases hb:B.heap[g]? with
   | none=>rw[hb] at h;cases h
   | some o=>
     have:=hw.oldb.block g (Array.getElem?_eq_some_iff.1 hb).1
     rw[this];exact h
theorem iF(B:World)(H:List HP)[cF H B](gl:GL B){n:Int}(h:0≤n∧n<9223372036854775808):∀ w,Holds B H w→Calls Tryz.prog 125 [i64 n].toArray w (aZ B H (str (Lib.itoa n))):=fun w hw=>
 (Tryz.strconv_Itoa n (by omega) (by omega) w (Cn gl hw)).mono fun e w' ⟨h1,k,os,h2⟩=>by
  subst h2;exact⟨h1,(kD k hw).grown os⟩
theorem qd(B:World)(Fr:List HP)(n:Int)(hn:0≤n∧n<18446744073709551616):
 ∀ w,Holds B Fr w→Calls Tryz.prog 62 [w64 n].toArray w (aZ B Fr (i64 (j9 n))):=by
 refine ak func62 aa ntmps62 aa (ac (ab (kPa aa aa (ad (ac (ac (ab (kPm aa aa (kPv (am aa aa aa) aa (ad ?_))))))))))
 refine aV aa (fun h4=> ?_) (fun h4=> ?_)
 ·have g4:2147483648<n:=by simpa using h4
  refine ac (ab (kPa aa aa (ad (au ?_))))
  exact aq results62 aa (fun w hw=>⟨by unfold j9;rw[if_pos g4],hw⟩)
 ·have g4:¬ 2147483648<n:=by simpa using h4
  refine aw (ac (ab (kPm aa aa (kPv (cR (c:=n) runUnderlying24 runUnderlying3 aa (hG (by omega))) aa (kPa aa aa (ad (au ?_)))))))
  exact aq results62 aa (fun w hw=>⟨by unfold j9;rw[if_neg g4],hw⟩)
theorem mC(B:World)(Fr:List HP)[cF Fr B](gl:GL B)(n e:Int)(hn:0≤n∧n<18446744073709551616)(he:SmE e):
 ∀ w,Holds B Fr w→Calls Tryz.prog 122 [w64 n,i64 e].toArray w (aZ B Fr (str (sQ n e))):=by
 refine ak func122 aa ntmps122 aa ?_
 have hil:=gN (n:=e) ⟨he.1,by omega⟩
 refine ac (ab (kPa aa aa (ad (ac (ac (ab (kPm aa aa (kPv (am aa aa aa) aa (ad ?_)))))))))
 refine aV aa (fun h6=> ?_) (fun h6=> ?_)
 ·have g6:e≠0:=by simpa using h6
  refine ac (ab (kPm aa aa (ap aa (ar call125 aa) (iF B _ gl ⟨he.1,by omega⟩) .free aa aa ?_)))
  refine ao aa (eZ aa aa (by first | omega | (simp only[List.length_append,List.length_cons,List.length_nil];omega))) .free aa aa ?_
  refine kPa aa aa (ad (au ?_))
  exact aq results122 aa (fun w hw=>⟨by unfold sQ BJ;rw[if_pos g6],hw⟩)
 ·have g6:¬ e≠0:=by simpa using h6
  refine aw (ac (ab (kPm aa aa (ap aa (ar call26 aa) (qN B _ gl hn) .free aa aa ?_))))
  refine kPa aa aa (ad (au ?_))
  exact aq results122 aa (fun w hw=>⟨by unfold sQ;rw[if_neg g6],hw⟩)
theorem ij(B:World)(Fr:List HP)[cF Fr B](gl:GL B)(e:Int)(he:SmE e):
 ∀ w,Holds B Fr w→Calls Tryz.prog 63 [i64 e].toArray w (aZ B Fr (str (okS e))):=by
 refine ak func63 aa ntmps63 aa (ac (ab (kPa aa aa (ad (ac (ac (ab (kPm aa aa (kPv (am aa aa aa) aa (ad ?_))))))))))
 refine aV aa (fun h4=> ?_) (fun h4=> ?_)
 ·have g4:e≠0:=by simpa using h4
  refine ac (ab (kPm aa aa (ap aa (ar call122 aa) (mC B _ gl 0 e (by decide) he) .free aa aa ?_)))
  refine kPa aa aa (ad (au ?_))
  exact aq results63 aa (fun w hw=>⟨by unfold sQ okS;rw[if_pos g4,if_pos g4],hw⟩)
 ·have g4:¬ e≠0:=by simpa using h4
  refine aw (ac (ab (kPa aa aa (ad (au ?_)))))
  exact aq results63 aa (fun w hw=>⟨by unfold okS;rw[if_neg g4],hw⟩)
theorem jB(B:World)(Fr:List HP)[cF Fr B](gl:GL B)(n e:Int)(hn:0≤n∧n<9223372036854775808)(he:SmE e):
 ∀ w,Holds B Fr w→Calls Tryz.prog 124 [i64 n,i64 e].toArray w (aZ B Fr (str (sQ n e))):=by
 refine ak func124 aa ntmps124 aa (ac (ab (kPa aa aa (ad (ac (ab (kPm aa aa (kPv (cR (c:=n) runUnderlying3 runUnderlying24 aa (fk (by omega))) aa (kPm aa aa (ap aa (ar call122 aa) (mC B _ gl n e (by omega) he) .free aa aa ?_))))))))))
 refine kPa aa aa (ad (au ?_))
 exact aq results124 aa (fun w hw=>⟨rfl,hw⟩)
theorem sM(B:World)(Fr:List HP)(b:Bool):
 ∀ w,Holds B Fr w→Calls Tryz.prog 127 [.bool b].toArray w (aZ B Fr (i64 (bI b))):=by
 refine ak func127 aa ntmps127 aa (ac (ab (kPa aa aa (ad (ac (ac (ab (kPm aa aa (ad ?_)))))))))
 refine aV aa (fun h3=> ?_) (fun h3=> ?_)
 ·have g3:b=true:=by first | exact h3 | simpa using h3
  subst g3
  refine ac (ab (kPa aa aa (ad (au ?_))))
  exact aq results127 aa (fun w hw=>⟨rfl,hw⟩)
 ·have g3:b=false:=by first | exact h3 | simpa using h3
  subst g3
  refine aw (ac (ab (kPa aa aa (ad (au ?_)))))
  exact aq results127 aa (fun w hw=>⟨rfl,hw⟩)
theorem AY(B:World)(Fr:List HP)(b3:Nat)(k:Int)(q:Option Addr)(cap:Nat)(ns:List Int)(hnb:∀ n∈ns,0≤n∧n<18446744073709551616)(hnl:ns.length≤1000)(hr:SlR B Fr (.slice q ns.length cap) (ns.map w64))(hq:∀ i,i<ns.length→∃ b off,q=some ⟨b,off,none⟩)(i:Nat)(hi:i<ns.length):
 ∀ w,Holds B (row b3 [i64 k,.slice q ns.length cap] 33::Fr) w→Calls Tryz.prog 123 [i64 i,ptr b3].toArray w (aZ B (row b3 [i64 k,.slice q ns.length cap] 33::Fr) (i64 (j9 ns[i]))):=by
 refine ak func123 aa ntmps123 aa ?_
 obtain⟨bq,oq,rfl⟩:=hq i hi
 refine ac (ab (kPa aa aa (ad (ac (ab (kPl iL isAgg22 aa aa aa aa (kPm aa aa (kPv (cC runUnderlying22 sizeOf24 aa aa (by omega) (by omega)) aa ?_))))))))
 refine kPv (cf (v:=w64 ns[i]) isAgg24 hr.up aa (by rw[Int.toNat_natCast,List.getElem?_map,List.getElem?_eq_getElem hi];rfl)) aa ?_
 refine ap aa (ar call62 aa) (qd B _ _ (hnb _ (List.getElem_mem hi))) .free aa aa ?_
 refine kPa aa aa (ad (aj [3] rfl (au ?_)))
 exact aq results123 aa (fun w hw=>⟨rfl,hw⟩)
abbrev cu(bp bd:Nat)(hv:Value)(ch:Int):HP:=row bp [ptr bd,hv,w64 ch] 109
abbrev nA(ns:List Int)(i:Nat):Int:=j9 (ns.getD i 0)
def cB(k:Int)(ns:List Int):Cal:=
 if k=0 then .begin (nA ns 0) else if k=1 then .commit else if k=2 then .abort else if k=3 then .alloc (nA ns 1) (nA ns 0) else if k=4 then .head (nA ns 0) else if k=5 then .read (nA ns 0) (nA ns 1)
 else if k=6 then .write (nA ns 0) (nA ns 1) (ns.getD 2 0) else if k=7 then .ref (nA ns 0) (nA ns 1) else if k=8 then .point (nA ns 0) (nA ns 1) (nA ns 2) else if k=9 then .root (nA ns 0)
 else if k=10 then .set (nA ns 0) (nA ns 1) else if k=11 then .drop (nA ns 0) else if k=12 then .step (nA ns 0) else .collect
def Cy(k:Int)(x:List Int):List UInt8:=
 if k=3∨k=5∨k=7∨k=9∨k=12 then sQ (x.getD 0 0) (x.getD 1 0)
 else if k=4 then (if x.getD 2 0≠0 then okS (x.getD 2 0) else Lib.itoa (x.getD 1 0)++[32]++Lib.itoa (x.getD 0 0))
 else okS (x.getD 0 0)
def Du(x:uf):List UInt8:=Lib.itoa x.used++[32]++Lib.itoa x.reached++[32]++Lib.itoa x.handles++[32]++Lib.itoa x.records++[32]++Lib.itoa (bI x.open_)
def XB(k:Int)(x:List Int):Prop:=(∀ a∈x,0≤a∧a<18446744073709551616)∧(k≠5→∀ a∈x,a<9223372036854775808)∧∀ a,x.getLast? =some a→a≤100
def StB(x:uf):Prop:=(0≤x.used∧x.used<9223372036854775808)∧(0≤x.reached∧x.reached<9223372036854775808)∧(0≤x.handles∧x.handles<9223372036854775808)∧(0≤x.records∧x.records<9223372036854775808)
def kN(k:Int):Nat:=if k=0∨k=4∨k=9∨k=11∨k=12 then 1 else if k=3∨k=5∨k=7∨k=10∨k=16 then 2 else if k=6∨k=8 then 3 else 0
def HpS.plays(h:HpS)(s:Dev)(k:Int)(ns:List Int)(l:List UInt8)(h':HpS)(s':Dev):Prop:=
 (k<14∧∃ x,h.does s x h' s' (cB k ns)∧l=Cy k x)∨(k=15∧l=okS (s.check h.c)∧h'=h∧s'=s)∨(k=14∧l=Du (h.stats s)∧h'=h∧s'=s)
theorem yF{n:Int}(h:0≤n∧n<18446744073709551616): -1≤j9 n∧j9 n≤2147483648:=by unfold j9;split<;>omega
theorem nsb{ns:List Int}(h:∀ n∈ns,0≤n∧n<18446744073709551616)(i:Nat):0≤ns.getD i 0∧ns.getD i 0<18446744073709551616:=by
 rw[List.getD_eq_getElem?_getD]
 cases e:ns[i]? with
 | none=>simp
 | some v=>exact h v (List.mem_of_getElem? e)
theorem D8{ns:List Int}(h:∀ n∈ns,0≤n∧n<18446744073709551616)(i:Nat): -1≤nA ns i∧nA ns i≤2147483648:=yF (nsb h i)
theorem nP{ns:List Int}{i:Nat}(h:i<ns.length):ns[i]=ns.getD i 0:=by simp[h]
theorem j1{B:World}{H Fr:List HP}[iR H Fr]{b3:Nat}{k:Int}{q:Option Addr}{cap:Nat}{ns:List Int}(hnb:∀ n∈ns,0≤n∧n<18446744073709551616)(hnl:ns.length≤1000)(hr:SlR B Fr (.slice q ns.length cap) (ns.map w64))(hq:∀ i,i<ns.length→∃ b off,q=some ⟨b,off,none⟩)(i:Nat)(hi:i<ns.length):
 ∀ w,Holds B (row b3 [i64 k,.slice q ns.length cap] 33::H) w→Calls Tryz.prog 123 [i64 i,ptr b3].toArray w (aZ B (row b3 [i64 k,.slice q ns.length cap] 33::H) (i64 (nA ns i))):=by
 have h:=AY B H b3 k q cap ns hnb hnl hr.up hq i hi
 rw[nP hi] at h
 exact h
theorem CE(B:World)(Fr:List HP)[cF Fr B](gl:GL B)(bp bh:Nat)(h:HpS)(s:Dev)(ch:Int)(hW:db h s)(hb:(s.block h.c).2=0)(k:Int)(hk:0≤k∧k<16)(q:Option Addr)(cap:Nat)(ns:List Int)(hnb:∀ n∈ns,0≤n∧n<18446744073709551616)(hnl:ns.length≤1000)(hr:SlR B Fr (.slice q ns.length cap) (ns.map w64))(hq:∀ i,i<ns.length→∃ b off,q=some ⟨b,off,none⟩)(hkn:ns.length=kN k)(hX:k<14→∀ x h' s',h.does s x h' s' (cB k ns)→XB k x)(hXc:k=15→SmE (s.check h.c))(hXs:k=14→StB (h.stats s)):
 ∀ w,Holds B (bZ bh h::ax h.bd s::cu bp h.bd (ptr bh) ch::Fr) w→Calls Tryz.prog 65 [ptr bp,.agg #[i64 k,.slice q ns.length cap]].toArray w (Ret B (fun rv H'=>∃ l h' s',h.plays s k ns l h' s'∧rv=str l∧H'=bZ bh h'::ax h.bd s'::cu bp h.bd (ptr bh) ch::Fr) (fun ch' H'=>∃ s',(k<14∧h.cuts s s' (cB k ns))∧ch'=dh∧H'=ax h.bd s'::cu bp h.bd (ptr bh) ch::Fr)):=by
 refine ak func65 aa ntmps65 aa (ac (ab (kPb (aY aa) aa fun b3=>(kPa aa aa (ad (ac (ab (kPv (c7 aa aa) aa (kPa aa aa (ad (ac ?_)))))))))))
 refine ab (kPf kB isAgg54 aa aa aa aa (kPa aa aa (ad (aj [6,5,4,3] rfl (ac (ac (ab (kPl jO isAgg31 aa aa aa aa (ad (aI (ac ?_)))))))))))
 refine ab (kPv (am aa aa aa) aa (kPa aa aa (ad ?_)))
 refine aV aa (fun h19=> ?_) (fun h19=> ?_)
 ·have g19:k=0:=by simpa using h19
  have hcall:cB k ns= .begin (nA ns 0):=by unfold cB;rw[if_pos g19]
  have hnn:ns.length=kN 0:=by rw[hkn,g19]
  have hn9:ns.length=_:=hnn.trans rfl
  have hX9:∀ x h' s',h.does s x h' s' (.begin (nA ns 0))→XB 0 x:=by intro x h' s' hd;rw[←hcall] at hd;have h9:=hX (by omega) x h' s' hd;rw[g19] at h9;exact h9
  subst g19
  refine ac (ab (kPm aa aa (kPm aa aa ?_)))
  refine ap aa (fa call123 aa aa) (j1 hnb hnl hr hq 0 (by rw[hn9];decide)) .free aa aa ?_
  refine aM [1,1] ?_
  refine aQ aa (ar call29 aa) (qL B _ bh h s hW hb (nA ns 0)) .free aa aa ?_ ?_
  rotate_left
  ·rintro _ _ ⟨s9,hm9,rfl,rfl⟩
   exact aX fun w hh=>⟨_,⟨s9,⟨by omega,by rw[hcall];exact hm9⟩,rfl,rfl⟩,hh.dp [1]⟩
  rintro _ _ ⟨a2,h2,s2,hm2,rfl,rfl⟩
  obtain⟨xb1,xb2,xb3⟩:=hX9 _ _ _ ⟨a2,hm2,rfl⟩
  have he2:SmE a2:=⟨(xb1 a2 (by simp)).1,xb3 a2 rfl⟩
  refine ap aa (ar call63 aa) (ij B _ gl _ he2) .free aa aa ?_
  refine kPa aa aa (ad (aj [4,6] rfl (au ?_)))
  exact aq results65 aa (fun w hw=>⟨_,⟨_,h2,s2,.inl ⟨by decide,[a2],by rw[hcall];exact⟨a2,hm2,rfl⟩,rfl⟩,rfl,rfl⟩,(hw.dp [2])⟩)
 ·have g19:¬ k=0:=by simpa using h19
  refine ac (ab (kPv (am aa aa aa) aa (kPa aa aa (ad ?_))))
  refine aV aa (fun h26=> ?_) (fun h26=> ?_)
  ·have g26:k=1:=by simpa using h26
   have hcall:cB k ns= .commit:=by unfold cB;rw[if_neg g19,if_pos g26]
   have hnn:ns.length=kN 1:=by rw[hkn,g26]
   have hn9:ns.length=_:=hnn.trans rfl
   have hX9:∀ x h' s',h.does s x h' s' (.commit)→XB 1 x:=by intro x h' s' hd;rw[←hcall] at hd;have h9:=hX (by omega) x h' s' hd;rw[g26] at h9;exact h9
   subst g26
   refine ac (ab (kPm aa aa (aM [1,1] ?_)))
   refine aQ aa (ar call33 aa) (pi B _ bh h s hW) .free aa aa ?_ ?_
   rotate_left
   ·rintro _ _ ⟨s9,hm9,rfl,rfl⟩
    exact aX fun w hh=>⟨_,⟨s9,⟨by omega,by rw[hcall];exact hm9⟩,rfl,rfl⟩,hh.dp [1]⟩
   rintro _ _ ⟨a2,h2,s2,hm2,rfl,rfl⟩
   obtain⟨xb1,xb2,xb3⟩:=hX9 _ _ _ ⟨a2,hm2,rfl⟩
   have he2:SmE a2:=⟨(xb1 a2 (by simp)).1,xb3 a2 rfl⟩
   refine ap aa (ar call63 aa) (ij B _ gl _ he2) .free aa aa ?_
   refine kPa aa aa (ad (aj [4,6] rfl (au ?_)))
   exact aq results65 aa (fun w hw=>⟨_,⟨_,h2,s2,.inl ⟨by decide,[a2],by rw[hcall];exact⟨a2,hm2,rfl⟩,rfl⟩,rfl,rfl⟩,(hw.dp [2])⟩)
  ·have g26:¬ k=1:=by simpa using h26
   refine ac (ab (kPv (am aa aa aa) aa (kPa aa aa (ad ?_))))
   refine aV aa (fun h31=> ?_) (fun h31=> ?_)
   ·have g31:k=2:=by simpa using h31
    have hcall:cB k ns= .abort:=by unfold cB;rw[if_neg g19,if_neg g26,if_pos g31]
    have hnn:ns.length=kN 2:=by rw[hkn,g31]
    have hn9:ns.length=_:=hnn.trans rfl
    have hX9:∀ x h' s',h.does s x h' s' (.abort)→XB 2 x:=by intro x h' s' hd;rw[←hcall] at hd;have h9:=hX (by omega) x h' s' hd;rw[g31] at h9;exact h9
    subst g31
    refine ac (ab (kPm aa aa (aM [1,1] ?_)))
    refine aQ aa (ar call39 aa) (xQ B _ bh h s hW) .free aa aa ?_ ?_
    rotate_left
    ·rintro _ _ ⟨s9,hm9,rfl,rfl⟩
     exact aX fun w hh=>⟨_,⟨s9,⟨by omega,by rw[hcall];exact hm9⟩,rfl,rfl⟩,hh.dp [1]⟩
    rintro _ _ ⟨a2,h2,s2,hm2,rfl,rfl⟩
    obtain⟨xb1,xb2,xb3⟩:=hX9 _ _ _ ⟨a2,hm2,rfl⟩
    have he2:SmE a2:=⟨(xb1 a2 (by simp)).1,xb3 a2 rfl⟩
    refine ap aa (ar call63 aa) (ij B _ gl _ he2) .free aa aa ?_
    refine kPa aa aa (ad (aj [4,6] rfl (au ?_)))
    exact aq results65 aa (fun w hw=>⟨_,⟨_,h2,s2,.inl ⟨by decide,[a2],by rw[hcall];exact⟨a2,hm2,rfl⟩,rfl⟩,rfl,rfl⟩,(hw.dp [2])⟩)
   ·have g31:¬ k=2:=by simpa using h31
    refine ac (ab (kPv (am aa aa aa) aa (kPa aa aa (ad (aj [36,18,6,5,4,3] rfl ?_)))))
    refine aV aa (fun h36=> ?_) (fun h36=> ?_)
    ·have g36:k=3:=by simpa using h36
     have hcall:cB k ns= .alloc (nA ns 1) (nA ns 0):=by unfold cB;rw[if_neg g19,if_neg g26,if_neg g31,if_pos g36]
     have hnn:ns.length=kN 3:=by rw[hkn,g36]
     have hn9:ns.length=_:=hnn.trans rfl
     have hX9:∀ x h' s',h.does s x h' s' (.alloc (nA ns 1) (nA ns 0))→XB 3 x:=by intro x h' s' hd;rw[←hcall] at hd;have h9:=hX (by omega) x h' s' hd;rw[g36] at h9;exact h9
     subst g36
     refine ac (ab (kPm aa aa (kPm aa aa ?_)))
     refine ap aa (fa call123 aa aa) (j1 hnb hnl hr hq 0 (by rw[hn9];decide)) .free aa aa ?_
     refine kPm aa aa ?_
     refine ap aa (fa call123 aa aa) (j1 hnb hnl hr hq 1 (by rw[hn9];decide)) .free aa aa ?_
     refine kPv (aR aa (ve _ _ aa aa)) aa (aM [1,1] ?_)
     refine aQ aa (ar call30 aa) (pf B _ bh h s hW (nA ns 1) (nA ns 0)) .free aa aa ?_ ?_
     rotate_left
     ·rintro _ _ ⟨s9,hm9,rfl,rfl⟩
      exact aX fun w hh=>⟨_,⟨s9,⟨by omega,by rw[hcall];exact hm9⟩,rfl,rfl⟩,hh.dp [1]⟩
     rintro _ _ ⟨a2,h2,s2,hm2,rfl,rfl⟩
     obtain⟨xb1,xb2,xb3⟩:=hX9 _ _ _ ⟨a2,hm2,rfl⟩
     have he2:SmE a2.2:=⟨(xb1 a2.2 (by simp)).1,xb3 a2.2 rfl⟩
     have hn2:0≤a2.1∧a2.1<9223372036854775808:=⟨(xb1 a2.1 (by simp)).1,xb2 (by decide) a2.1 (by simp)⟩
     refine kPv (az aa aa) aa (kPv (az aa aa) aa (ap aa (ar call124 aa) (jB B _ gl _ _ hn2 he2) .free aa aa ?_))
     refine kPa aa aa (ad (aj [4,6] rfl (au ?_)))
     exact aq results65 aa (fun w hw=>⟨_,⟨_,h2,s2,.inl ⟨by decide,[a2.1,a2.2],by rw[hcall];exact⟨a2,hm2,rfl⟩,rfl⟩,rfl,rfl⟩,(hw.dp [2])⟩)
    ·have g36:¬ k=3:=by simpa using h36
     refine ac (ab (kPv (am aa aa aa) aa (kPa aa aa (ad ?_))))
     refine aV aa (fun h48=> ?_) (fun h48=> ?_)
     ·have g48:k=4:=by simpa using h48
      have hcall:cB k ns= .head (nA ns 0):=by unfold cB;rw[if_neg g19,if_neg g26,if_neg g31,if_neg g36,if_pos g48]
      have hnn:ns.length=kN 4:=by rw[hkn,g48]
      have hn9:ns.length=_:=hnn.trans rfl
      have hX9:∀ x h' s',h.does s x h' s' (.head (nA ns 0))→XB 4 x:=by intro x h' s' hd;rw[←hcall] at hd;have h9:=hX (by omega) x h' s' hd;rw[g48] at h9;exact h9
      subst g48
      refine ac ?_
      obtain⟨xb1,xb2,xb3⟩:=hX9 _ _ _ ⟨rfl,rfl,rfl⟩
      have he2:SmE (h.obj s (nA ns 0)).2:=⟨(xb1 _ (by simp)).1,xb3 _ rfl⟩
      have ho1:0≤(h.obj s (nA ns 0)).1.1∧(h.obj s (nA ns 0)).1.1<9223372036854775808:=⟨(xb1 _ (by simp)).1,xb2 (by decide) _ (by simp)⟩
      have ho2:0≤(h.obj s (nA ns 0)).1.2.1∧(h.obj s (nA ns 0)).1.2.1<9223372036854775808:=⟨(xb1 _ (by simp)).1,xb2 (by decide) _ (by simp)⟩
      have hol1:=gN (n:=(h.obj s (nA ns 0)).1.1) ⟨ho1.1,by omega⟩
      have hol2:=gN (n:=(h.obj s (nA ns 0)).1.2.1) ⟨ho2.1,by omega⟩
      refine ab (kPm aa aa (kPm aa aa ?_))
      refine ap aa (fa call123 aa aa) (j1 hnb hnl hr hq 0 (by rw[hn9];decide)) .free aa aa ?_
      refine ap aa (ar call102 aa) (lS [1,1] [2] (zB B _ bh h s hW (nA ns 0))) .free aa aa ?_
      refine kPm aa aa (kPv (az aa aa) aa (kPv (az aa aa) aa (kPb (aD zeroValue63 aa) aa fun b7=>(kPs (aA (vs:=_) sizeOf63 aa aa aa aa aa) aa (kPa aa aa (ad (aj [8,7,6,4] rfl (ac (ac (ab (kPm aa aa ?_)))))))))))
      refine kPv (am aa aa aa) aa (ad ?_)
      refine aV aa (fun h58=> ?_) (fun h58=> ?_)
      ·have g58:(h.obj s (nA ns 0)).2≠0:=by simpa using h58
       refine ac (ab (kPm aa aa (ap aa (ar call63 aa) (ij B _ gl _ he2) .free aa aa ?_)))
       refine kPa aa aa (ad (au ?_))
       exact aq results65 aa (fun w hw=>⟨_,⟨_,h,s,.inl ⟨by decide,[(h.obj s (nA ns 0)).1.1,(h.obj s (nA ns 0)).1.2.1,(h.obj s (nA ns 0)).2],by rw[hcall];exact⟨rfl,rfl,rfl⟩,by unfold Cy;rw[if_neg (by decide),if_pos aa];exact(if_pos g58).symm⟩,rfl,rfl⟩,(hw.dp [0,0])⟩)
      ·have g58:¬ (h.obj s (nA ns 0)).2≠0:=by simpa using h58
       refine aw (ac (cN Tryz.mixed (by kernel_rfl) (by kernel_rfl) ?_))
       refine kQv (aC (m:=_) gC aa aa) aa (kQv (ag isAgg3 aa aa) aa (bj aa (ar call125 aa) (iF B _ gl (n:=(h.obj s (nA ns 0)).1.2.1) ho2) .free aa ?_))
       refine bg aa (eZ aa aa (by first | omega | (simp only[List.length_append,List.length_cons,List.length_nil];omega))) .free aa ?_
       refine kQv (aC (m:=_) iK aa aa) aa (kQv (ag isAgg3 aa aa) aa (bj aa (ar call125 aa) (iF B _ gl (n:=(h.obj s (nA ns 0)).1.1) ho1) .free aa ?_))
       refine bg aa (eZ aa aa (by first | omega | (simp only[List.length_append,List.length_cons,List.length_nil];omega))) .free aa ?_
       refine kQa aa aa (bM (aj [4,6] rfl (au ?_)))
       exact aq results65 aa (fun w hw=>⟨_,⟨_,h,s,.inl ⟨by decide,[(h.obj s (nA ns 0)).1.1,(h.obj s (nA ns 0)).1.2.1,(h.obj s (nA ns 0)).2],by rw[hcall];exact⟨rfl,rfl,rfl⟩,by unfold Cy;rw[if_neg (by decide),if_pos aa];exact(if_neg g58).symm⟩,rfl,rfl⟩,(hw.dp [0,0])⟩)
     ·have g48:¬ k=4:=by simpa using h48
      refine ac (ab (kPv (am aa aa aa) aa (kPa aa aa (ad ?_))))
      refine aV aa (fun h69=> ?_) (fun h69=> ?_)
      ·have g69:k=5:=by simpa using h69
       have hcall:cB k ns= .read (nA ns 0) (nA ns 1):=by unfold cB;rw[if_neg g19,if_neg g26,if_neg g31,if_neg g36,if_neg g48,if_pos g69]
       have hnn:ns.length=kN 5:=by rw[hkn,g69]
       have hn9:ns.length=_:=hnn.trans rfl
       have hX9:∀ x h' s',h.does s x h' s' (.read (nA ns 0) (nA ns 1))→XB 5 x:=by intro x h' s' hd;rw[←hcall] at hd;have h9:=hX (by omega) x h' s' hd;rw[g69] at h9;exact h9
       subst g69
       refine ac ?_
       obtain⟨xb1,xb2,xb3⟩:=hX9 _ _ _ ⟨rfl,rfl,rfl⟩
       have he2:SmE (h.read s (nA ns 0) (nA ns 1)).2:=⟨(xb1 _ (by simp)).1,xb3 _ rfl⟩
       have hv2:0≤(h.read s (nA ns 0) (nA ns 1)).1∧(h.read s (nA ns 0) (nA ns 1)).1<18446744073709551616:=xb1 _ (by simp)
       refine ab (kPm aa aa (kPm aa aa ?_))
       refine ap aa (fa call123 aa aa) (j1 hnb hnl hr hq 0 (by rw[hn9];decide)) .free aa aa ?_
       refine kPm aa aa ?_
       refine ap aa (fa call123 aa aa) (j1 hnb hnl hr hq 1 (by rw[hn9];decide)) .free aa aa ?_
       refine ap aa (ar call40 aa) (lS [1,1] [2] (zz B _ bh h s hW (nA ns 0) (nA ns 1))) .free aa aa ?_
       refine kPv (az aa aa) aa (kPv (az aa aa) aa (ap aa (ar call122 aa) (mC B _ gl _ _ hv2 he2) .free aa aa ?_))
       refine kPa aa aa (ad (aj [4,6] rfl (au ?_)))
       exact aq results65 aa (fun w hw=>⟨_,⟨_,h,s,.inl ⟨by decide,[(h.read s (nA ns 0) (nA ns 1)).1,(h.read s (nA ns 0) (nA ns 1)).2],by rw[hcall];exact⟨rfl,rfl,rfl⟩,rfl⟩,rfl,rfl⟩,(hw.dp [0])⟩)
      ·have g69:¬ k=5:=by simpa using h69
       refine ac (ab (kPv (am aa aa aa) aa (kPa aa aa (ad ?_))))
       refine aV aa (fun h80=> ?_) (fun h80=> ?_)
       ·have g80:k=6:=by simpa using h80
        have hcall:cB k ns= .write (nA ns 0) (nA ns 1) (ns.getD 2 0):=by unfold cB;rw[if_neg g19,if_neg g26,if_neg g31,if_neg g36,if_neg g48,if_neg g69,if_pos g80]
        have hnn:ns.length=kN 6:=by rw[hkn,g80]
        have hn9:ns.length=_:=hnn.trans rfl
        have hX9:∀ x h' s',h.does s x h' s' (.write (nA ns 0) (nA ns 1) (ns.getD 2 0))→XB 6 x:=by intro x h' s' hd;rw[←hcall] at hd;have h9:=hX (by omega) x h' s' hd;rw[g80] at h9;exact h9
        subst g80
        refine ac ?_
        obtain⟨bq,oq,rfl⟩:=hq 2 (by rw[hn9];decide)
        refine cH 9 Tryz.mixed (by kernel_rfl) (by kernel_rfl) ?_
        refine kQm aa aa (kQm aa aa ?_)
        refine bj aa (fa call123 aa aa) (j1 hnb hnl hr hq 0 (by rw[hn9];decide)) .free aa ?_
        refine kQm aa aa ?_
        refine bj aa (fa call123 aa aa) (j1 hnb hnl hr hq 1 (by rw[hn9];decide)) .free aa ?_
        refine kQv (aC (m:=_) iL aa aa) aa (kQv (ag isAgg22 aa aa) aa (kQv (cC runUnderlying22 sizeOf24 aa aa (by decide) (by rw[hn9];decide)) aa ?_))
        refine kQv (cf (v:=w64 (ns.getD 2 0)) isAgg24 hr.up aa (by rw[List.getElem?_map];show ns[2]?.map w64=_;rw[List.getElem?_eq_getElem (by rw[hn9];decide),nP];rfl)) aa ?_
        refine bM (aM [1,1] ?_)
        refine aQ aa (ar call38 aa) (qD B _ bh h s hW (nA ns 0) (nA ns 1) (ns.getD 2 0) (nsb hnb 2)) .free aa aa ?_ ?_
        rotate_left
        ·rintro _ _ ⟨s9,hm9,rfl,rfl⟩
         exact aX fun w hh=>⟨_,⟨s9,⟨by omega,by rw[hcall];exact hm9⟩,rfl,rfl⟩,hh.dp [1]⟩
        rintro _ _ ⟨a2,h2,s2,hm2,rfl,rfl⟩
        obtain⟨xb1,xb2,xb3⟩:=hX9 _ _ _ ⟨a2,hm2,rfl⟩
        have he2:SmE a2:=⟨(xb1 a2 (by simp)).1,xb3 a2 rfl⟩
        refine ap aa (ar call63 aa) (ij B _ gl _ he2) .free aa aa ?_
        refine kPa aa aa (ad (aj [4,6] rfl (au ?_)))
        exact aq results65 aa (fun w hw=>⟨_,⟨_,h2,s2,.inl ⟨by decide,[a2],by rw[hcall];exact⟨a2,hm2,rfl⟩,rfl⟩,rfl,rfl⟩,(hw.dp [2])⟩)
       ·have g80:¬ k=6:=by simpa using h80
        refine ac (ab (kPv (am aa aa aa) aa (kPa aa aa (ad (aj [93,18,6,5,4] rfl ?_)))))
        refine aV aa (fun h93=> ?_) (fun h93=> ?_)
        ·have g93:k=7:=by simpa using h93
         have hcall:cB k ns= .ref (nA ns 0) (nA ns 1):=by unfold cB;rw[if_neg g19,if_neg g26,if_neg g31,if_neg g36,if_neg g48,if_neg g69,if_neg g80,if_pos g93]
         have hnn:ns.length=kN 7:=by rw[hkn,g93]
         have hn9:ns.length=_:=hnn.trans rfl
         have hX9:∀ x h' s',h.does s x h' s' (.ref (nA ns 0) (nA ns 1))→XB 7 x:=by intro x h' s' hd;rw[←hcall] at hd;have h9:=hX (by omega) x h' s' hd;rw[g93] at h9;exact h9
         subst g93
         refine ac (ab (kPm aa aa (kPm aa aa ?_)))
         refine ap aa (fa call123 aa aa) (j1 hnb hnl hr hq 0 (by rw[hn9];decide)) .free aa aa ?_
         refine kPm aa aa ?_
         refine ap aa (fa call123 aa aa) (j1 hnb hnl hr hq 1 (by rw[hn9];decide)) .free aa aa ?_
         refine aM [1,1] (de aa (ar call37 aa) (Bi B _ bh h s hW (nA ns 0) (nA ns 1)) .free aa aa ?_)
         obtain⟨xb1,xb2,xb3⟩:=hX9 _ _ _ ⟨rfl,rfl,rfl⟩
         have he2:SmE (h.ref s (nA ns 0) (nA ns 1)).1.2:=⟨(xb1 _ (by simp)).1,xb3 _ rfl⟩
         have hn2:0≤(h.ref s (nA ns 0) (nA ns 1)).1.1∧(h.ref s (nA ns 0) (nA ns 1)).1.1<9223372036854775808:=⟨(xb1 _ (by simp)).1,xb2 (by decide) _ (by simp)⟩
         refine kPv (az aa aa) aa (kPv (az aa aa) aa (ap aa (ar call124 aa) (jB B _ gl _ _ hn2 he2) .free aa aa ?_))
         refine kPa aa aa (ad (aj [4,6] rfl (au ?_)))
         exact aq results65 aa (fun w hw=>⟨_,⟨_,(h.ref s (nA ns 0) (nA ns 1)).2,s,.inl ⟨by decide,[(h.ref s (nA ns 0) (nA ns 1)).1.1,(h.ref s (nA ns 0) (nA ns 1)).1.2],by rw[hcall];exact⟨rfl,rfl,rfl⟩,rfl⟩,rfl,rfl⟩,(hw.dp [2])⟩)
        ·have g93:¬ k=7:=by simpa using h93
         refine ac (ab (kPv (am aa aa aa) aa (kPa aa aa (ad ?_))))
         refine aV aa (fun h104=> ?_) (fun h104=> ?_)
         ·have g104:k=8:=by simpa using h104
          have hcall:cB k ns= .point (nA ns 0) (nA ns 1) (nA ns 2):=by unfold cB;rw[if_neg g19,if_neg g26,if_neg g31,if_neg g36,if_neg g48,if_neg g69,if_neg g80,if_neg g93,if_pos g104]
          have hnn:ns.length=kN 8:=by rw[hkn,g104]
          have hn9:ns.length=_:=hnn.trans rfl
          have hX9:∀ x h' s',h.does s x h' s' (.point (nA ns 0) (nA ns 1) (nA ns 2))→XB 8 x:=by intro x h' s' hd;rw[←hcall] at hd;have h9:=hX (by omega) x h' s' hd;rw[g104] at h9;exact h9
          subst g104
          refine ac (ab (kPm aa aa (kPm aa aa ?_)))
          refine ap aa (fa call123 aa aa) (j1 hnb hnl hr hq 0 (by rw[hn9];decide)) .free aa aa ?_
          refine kPm aa aa ?_
          refine ap aa (fa call123 aa aa) (j1 hnb hnl hr hq 1 (by rw[hn9];decide)) .free aa aa ?_
          refine kPm aa aa ?_
          refine ap aa (fa call123 aa aa) (j1 hnb hnl hr hq 2 (by rw[hn9];decide)) .free aa aa ?_
          refine aM [1,1] ?_
          refine aQ aa (ar call31 aa) (xN B _ bh h s hW (nA ns 0) (nA ns 1) (nA ns 2)) .free aa aa ?_ ?_
          rotate_left
          ·rintro _ _ ⟨s9,hm9,rfl,rfl⟩
           exact aX fun w hh=>⟨_,⟨s9,⟨by omega,by rw[hcall];exact hm9⟩,rfl,rfl⟩,hh.dp [1]⟩
          rintro _ _ ⟨a2,h2,s2,hm2,rfl,rfl⟩
          obtain⟨xb1,xb2,xb3⟩:=hX9 _ _ _ ⟨a2,hm2,rfl⟩
          have he2:SmE a2:=⟨(xb1 a2 (by simp)).1,xb3 a2 rfl⟩
          refine ap aa (ar call63 aa) (ij B _ gl _ he2) .free aa aa ?_
          refine kPa aa aa (ad (aj [4,6] rfl (au ?_)))
          exact aq results65 aa (fun w hw=>⟨_,⟨_,h2,s2,.inl ⟨by decide,[a2],by rw[hcall];exact⟨a2,hm2,rfl⟩,rfl⟩,rfl,rfl⟩,(hw.dp [2])⟩)
         ·have g104:¬ k=8:=by simpa using h104
          refine ac (ab (kPv (am aa aa aa) aa (kPa aa aa (ad ?_))))
          refine aV aa (fun h115=> ?_) (fun h115=> ?_)
          ·have g115:k=9:=by simpa using h115
           have hcall:cB k ns= .root (nA ns 0):=by unfold cB;rw[if_neg g19,if_neg g26,if_neg g31,if_neg g36,if_neg g48,if_neg g69,if_neg g80,if_neg g93,if_neg g104,if_pos g115]
           have hnn:ns.length=kN 9:=by rw[hkn,g115]
           have hn9:ns.length=_:=hnn.trans rfl
           have hX9:∀ x h' s',h.does s x h' s' (.root (nA ns 0))→XB 9 x:=by intro x h' s' hd;rw[←hcall] at hd;have h9:=hX (by omega) x h' s' hd;rw[g115] at h9;exact h9
           subst g115
           refine ac (ab (kPm aa aa (kPm aa aa ?_)))
           refine ap aa (fa call123 aa aa) (j1 hnb hnl hr hq 0 (by rw[hn9];decide)) .free aa aa ?_
           refine aM [1,1] (de aa (ar call43 aa) (zy B _ bh h s hW (nA ns 0)) .free aa aa ?_)
           obtain⟨xb1,xb2,xb3⟩:=hX9 _ _ _ ⟨rfl,rfl,rfl⟩
           have he2:SmE (h.root s (nA ns 0)).1.2:=⟨(xb1 _ (by simp)).1,xb3 _ rfl⟩
           have hn2:0≤(h.root s (nA ns 0)).1.1∧(h.root s (nA ns 0)).1.1<9223372036854775808:=⟨(xb1 _ (by simp)).1,xb2 (by decide) _ (by simp)⟩
           refine kPv (az aa aa) aa (kPv (az aa aa) aa (ap aa (ar call124 aa) (jB B _ gl _ _ hn2 he2) .free aa aa ?_))
           refine kPa aa aa (ad (aj [4,6] rfl (au ?_)))
           exact aq results65 aa (fun w hw=>⟨_,⟨_,(h.root s (nA ns 0)).2,s,.inl ⟨by decide,[(h.root s (nA ns 0)).1.1,(h.root s (nA ns 0)).1.2],by rw[hcall];exact⟨rfl,rfl,rfl⟩,rfl⟩,rfl,rfl⟩,(hw.dp [2])⟩)
          ·have g115:¬ k=9:=by simpa using h115
           refine ac (ab (kPv (am aa aa aa) aa (kPa aa aa (ad ?_))))
           refine aV aa (fun h124=> ?_) (fun h124=> ?_)
           ·have g124:k=10:=by simpa using h124
            have hcall:cB k ns= .set (nA ns 0) (nA ns 1):=by unfold cB;rw[if_neg g19,if_neg g26,if_neg g31,if_neg g36,if_neg g48,if_neg g69,if_neg g80,if_neg g93,if_neg g104,if_neg g115,if_pos g124]
            have hnn:ns.length=kN 10:=by rw[hkn,g124]
            have hn9:ns.length=_:=hnn.trans rfl
            have hX9:∀ x h' s',h.does s x h' s' (.set (nA ns 0) (nA ns 1))→XB 10 x:=by intro x h' s' hd;rw[←hcall] at hd;have h9:=hX (by omega) x h' s' hd;rw[g124] at h9;exact h9
            subst g124
            refine ac (ab (kPm aa aa (kPm aa aa ?_)))
            refine ap aa (fa call123 aa aa) (j1 hnb hnl hr hq 0 (by rw[hn9];decide)) .free aa aa ?_
            refine kPm aa aa ?_
            refine ap aa (fa call123 aa aa) (j1 hnb hnl hr hq 1 (by rw[hn9];decide)) .free aa aa ?_
            refine aM [1,1] ?_
            refine aQ aa (ar call32 aa) (Bh B _ bh h s hW (nA ns 0) (nA ns 1)) .free aa aa ?_ ?_
            rotate_left
            ·rintro _ _ ⟨s9,hm9,rfl,rfl⟩
             exact aX fun w hh=>⟨_,⟨s9,⟨by omega,by rw[hcall];exact hm9⟩,rfl,rfl⟩,hh.dp [1]⟩
            rintro _ _ ⟨a2,h2,s2,hm2,rfl,rfl⟩
            obtain⟨xb1,xb2,xb3⟩:=hX9 _ _ _ ⟨a2,hm2,rfl⟩
            have he2:SmE a2:=⟨(xb1 a2 (by simp)).1,xb3 a2 rfl⟩
            refine ap aa (ar call63 aa) (ij B _ gl _ he2) .free aa aa ?_
            refine kPa aa aa (ad (aj [4,6] rfl (au ?_)))
            exact aq results65 aa (fun w hw=>⟨_,⟨_,h2,s2,.inl ⟨by decide,[a2],by rw[hcall];exact⟨a2,hm2,rfl⟩,rfl⟩,rfl,rfl⟩,(hw.dp [2])⟩)
           ·have g124:¬ k=10:=by simpa using h124
            refine ac (ab (kPv (am aa aa aa) aa (kPa aa aa (ad (aj [133,18,6,5,4] rfl ?_)))))
            refine aV aa (fun h133=> ?_) (fun h133=> ?_)
            ·have g133:k=11:=by simpa using h133
             have hcall:cB k ns= .drop (nA ns 0):=by unfold cB;rw[if_neg g19,if_neg g26,if_neg g31,if_neg g36,if_neg g48,if_neg g69,if_neg g80,if_neg g93,if_neg g104,if_neg g115,if_neg g124,if_pos g133]
             have hnn:ns.length=kN 11:=by rw[hkn,g133]
             have hn9:ns.length=_:=hnn.trans rfl
             have hX9:∀ x h' s',h.does s x h' s' (.drop (nA ns 0))→XB 11 x:=by intro x h' s' hd;rw[←hcall] at hd;have h9:=hX (by omega) x h' s' hd;rw[g133] at h9;exact h9
             subst g133
             refine ac (ab (kPm aa aa (kPm aa aa ?_)))
             refine ap aa (fa call123 aa aa) (j1 hnb hnl hr hq 0 (by rw[hn9];decide)) .free aa aa ?_
             refine aM [1,1] (de aa (ar call34 aa) (xO B _ bh h s hW (nA ns 0)) .free aa aa ?_)
             obtain⟨xb1,xb2,xb3⟩:=hX9 _ _ _ ⟨rfl,rfl,rfl⟩
             have he2:SmE (if (bG h.T.at_ (nA ns 0)).isSome=true then 0 else 6):=⟨(xb1 _ (by simp)).1,xb3 _ rfl⟩
             refine ap aa (ar call63 aa) (ij B _ gl _ he2) .free aa aa ?_
             refine kPa aa aa (ad (aj [4,6] rfl (au ?_)))
             exact aq results65 aa (fun w hw=>⟨_,⟨_,{h with T:=h.T.drop (nA ns 0)},s,.inl ⟨by decide,[if (bG h.T.at_ (nA ns 0)).isSome=true then 0 else 6],by rw[hcall];exact⟨rfl,rfl,rfl⟩,rfl⟩,rfl,rfl⟩,(hw.dp [2])⟩)
            ·have g133:¬ k=11:=by simpa using h133
             refine ac (ab (kPv (am aa aa aa) aa (kPa aa aa (ad ?_))))
             refine aV aa (fun h140=> ?_) (fun h140=> ?_)
             ·have g140:k=12:=by simpa using h140
              have hcall:cB k ns= .step (nA ns 0):=by unfold cB;rw[if_neg g19,if_neg g26,if_neg g31,if_neg g36,if_neg g48,if_neg g69,if_neg g80,if_neg g93,if_neg g104,if_neg g115,if_neg g124,if_neg g133,if_pos g140]
              have hnn:ns.length=kN 12:=by rw[hkn,g140]
              have hn9:ns.length=_:=hnn.trans rfl
              have hX9:∀ x h' s',h.does s x h' s' (.step (nA ns 0))→XB 12 x:=by intro x h' s' hd;rw[←hcall] at hd;have h9:=hX (by omega) x h' s' hd;rw[g140] at h9;exact h9
              subst g140
              refine ac (ab (kPm aa aa (kPm aa aa ?_)))
              refine ap aa (fa call123 aa aa) (j1 hnb hnl hr hq 0 (by rw[hn9];decide)) .free aa aa ?_
              refine aM [1,1] ?_
              refine aQ aa (ar call126 aa) (xM B _ bh h s hW hb (nA ns 0) (by have:=D8 hnb 0;omega)) .free aa aa ?_ ?_
              rotate_left
              ·rintro _ _ ⟨s9,hm9,rfl,rfl⟩
               exact aX fun w hh=>⟨_,⟨s9,⟨by omega,by rw[hcall];exact hm9⟩,rfl,rfl⟩,hh.dp [1]⟩
              rintro _ _ ⟨d2,a2,h2,s2,hm2,rfl,rfl⟩
              obtain⟨xb1,xb2,xb3⟩:=hX9 _ _ _ ⟨d2,a2,hm2,rfl⟩
              have he2:SmE a2:=⟨(xb1 a2 (by simp)).1,xb3 a2 rfl⟩
              have hn2:0≤bI d2∧bI d2<9223372036854775808:=by unfold bI;split<;>omega
              refine kPm aa aa (kPv (az aa aa) aa (kPv (az aa aa) aa (kPa aa aa (kPa aa aa (ad (aj [10,9,6,4] rfl (ac (ab (kPm aa aa (ap aa (ar call127 aa) (sM B _ _) .free aa aa ?_))))))))))
              refine kPm aa aa (ap aa (ar call124 aa) (jB B _ gl _ _ hn2 he2) .free aa aa ?_)
              refine kPa aa aa (ad (au ?_))
              exact aq results65 aa (fun w hw=>⟨_,⟨_,h2,s2,.inl ⟨by decide,[bI d2,a2],by rw[hcall];exact⟨d2,a2,hm2,rfl⟩,rfl⟩,rfl,rfl⟩,(hw.dp [2])⟩)
             ·have g140:¬ k=12:=by simpa using h140
              refine ac (ab (kPv (am aa aa aa) aa (kPa aa aa (ad ?_))))
              refine aV aa (fun h153=> ?_) (fun h153=> ?_)
              ·have g153:k=13:=by simpa using h153
               have hcall:cB k ns= .collect:=by unfold cB;rw[if_neg g19,if_neg g26,if_neg g31,if_neg g36,if_neg g48,if_neg g69,if_neg g80,if_neg g93,if_neg g104,if_neg g115,if_neg g124,if_neg g133,if_neg g140]
               have hnn:ns.length=kN 13:=by rw[hkn,g153]
               have hn9:ns.length=_:=hnn.trans rfl
               have hX9:∀ x h' s',h.does s x h' s' (.collect)→XB 13 x:=by intro x h' s' hd;rw[←hcall] at hd;have h9:=hX (by omega) x h' s' hd;rw[g153] at h9;exact h9
               subst g153
               refine ac (ab (kPm aa aa (aM [1,1] ?_)))
               refine aQ aa (ar call36 aa) (l0 B _ bh h s hW hb) .free aa aa ?_ ?_
               rotate_left
               ·rintro _ _ ⟨s9,hm9,rfl,rfl⟩
                exact aX fun w hh=>⟨_,⟨s9,⟨by omega,by rw[hcall];exact hm9⟩,rfl,rfl⟩,hh.dp [1]⟩
               rintro _ _ ⟨a2,h2,s2,hm2,rfl,rfl⟩
               obtain⟨xb1,xb2,xb3⟩:=hX9 _ _ _ ⟨a2,hm2,rfl⟩
               have he2:SmE a2:=⟨(xb1 a2 (by simp)).1,xb3 a2 rfl⟩
               refine ap aa (ar call63 aa) (ij B _ gl _ he2) .free aa aa ?_
               refine kPa aa aa (ad (aj [4,6] rfl (au ?_)))
               exact aq results65 aa (fun w hw=>⟨_,⟨_,h2,s2,.inl ⟨by decide,[a2],by rw[hcall];exact⟨a2,hm2,rfl⟩,rfl⟩,rfl,rfl⟩,(hw.dp [2])⟩)
              ·have g153:¬ k=13:=by simpa using h153
               refine ac (ab (kPv (am aa aa aa) aa (kPa aa aa (ad (aj [158,6,4] rfl ?_)))))
               refine aV aa (fun h158=> ?_) (fun h158=> ?_)
               ·have g158:k=15:=by simpa using h158
                refine ac ?_
                have he2:SmE (s.check h.c):=hXc g158
                refine ab (kPm aa aa (ap aa (ar call52 aa) (lS [1,1] [2] (pd B _ bh h s hW)) .free aa aa ?_))
                refine ap aa (ar call63 aa) (ij B _ gl _ he2) .free aa aa ?_
                refine kPa aa aa (ad (au ?_))
                exact aq results65 aa (fun w hw=>⟨_,⟨_,h,s,.inr (.inl ⟨g158,rfl,rfl,rfl⟩),rfl,rfl⟩,(hw.dp [0])⟩)
               ·have g158:k=14:=by simp at h158;omega
                refine aw (ac ?_)
                obtain⟨hs1,hs2,hs3,hs4⟩:=hXs g158
                have hbo:0≤bI (h.stats s).open_∧bI (h.stats s).open_<9223372036854775808:=by unfold bI;split<;>omega
                have hsl0:=gN (n:=(h.stats s).used) (by omega)
                have hsl1:=gN (n:=(h.stats s).reached) (by omega)
                have hsl2:=gN (n:=(h.stats s).handles) (by omega)
                have hsl3:=gN (n:=(h.stats s).records) (by omega)
                have hsl4:=gN (n:=bI (h.stats s).open_) (by omega)
                refine ab (kPm aa aa (ap aa (ar call35 aa) (lS [1,1] [2] (mJ B _ bh h s hW)) .free aa aa ?_))
                refine kPb (aD zeroValue67 aa) aa fun b11=>(kPs (aA (vs:=_) sizeOf67 aa aa aa aa aa) aa (ad (ac (cN Tryz.mixed (by kernel_rfl) (by kernel_rfl) ?_))))
                refine kQv (aC (m:=_) wG aa aa) aa (kQv (ag isAgg3 aa aa) aa (bj aa (ar call125 aa) (iF B _ gl (n:=(h.stats s).used) hs1) .free aa ?_))
                refine bg aa (eZ aa aa (by first | omega | (simp only[List.length_append,List.length_cons,List.length_nil];omega))) .free aa ?_
                refine kQv (aC (m:=_) wF aa aa) aa (kQv (ag isAgg3 aa aa) aa (bj aa (ar call125 aa) (iF B _ gl (n:=(h.stats s).reached) hs2) .free aa ?_))
                refine bg aa (eZ aa aa (by first | omega | (simp only[List.length_append,List.length_cons,List.length_nil];omega))) .free aa ?_
                refine bg aa (eZ aa aa (by first | omega | (simp only[List.length_append,List.length_cons,List.length_nil];omega))) .free aa ?_
                refine kQv (aC (m:=_) wE aa aa) aa (kQv (ag isAgg3 aa aa) aa (bj aa (ar call125 aa) (iF B _ gl (n:=(h.stats s).handles) hs3) .free aa ?_))
                refine bg aa (eZ aa aa (by first | omega | (simp only[List.length_append,List.length_cons,List.length_nil];omega))) .free aa ?_
                refine bg aa (eZ aa aa (by first | omega | (simp only[List.length_append,List.length_cons,List.length_nil];omega))) .free aa ?_
                refine kQv (aC (m:=_) wD aa aa) aa (kQv (ag isAgg3 aa aa) aa (bj aa (ar call125 aa) (iF B _ gl (n:=(h.stats s).records) hs4) .free aa ?_))
                refine bg aa (eZ aa aa (by first | omega | (simp only[List.length_append,List.length_cons,List.length_nil];omega))) .free aa ?_
                refine bg aa (eZ aa aa (by first | omega | (simp only[List.length_append,List.length_cons,List.length_nil];omega))) .free aa ?_
                refine kQv (aC (m:=_) wC aa aa) aa (kQv (ag isAgg4 aa aa) aa (bj aa (ar call127 aa) (sM B _ _) .free aa ?_))
                refine bj aa (ar call125 aa) (iF B _ gl (n:=bI (h.stats s).open_) hbo) .free aa ?_
                refine bg aa (eZ aa aa (by first | omega | (simp only[List.length_append,List.length_cons,List.length_nil];omega))) .free aa ?_
                refine kQa aa aa (bM (aj [4] rfl (au ?_)))
                exact aq results65 aa (fun w hw=>⟨_,⟨_,h,s,.inr (.inr ⟨g158,rfl,rfl,rfl⟩),rfl,rfl⟩,(hw.dp [0,0])⟩)
def chc(bits:Int)(i:Nat):Int:=IntKind.u8.wrap (pK .and .u64 (bits.fdiv (2 ^ min (2*((i:Int)%32)).toNat IntKind.u64.bits)) 3)
theorem BQ(bits:Int)(i:Nat):0≤chc bits i:=by
 unfold chc
 simp only[IntKind.wrap,IntKind.bits,IntKind.signed];simp;omega
end Go.Proofs.YtipdhkmphngmoaaGreatDoor
