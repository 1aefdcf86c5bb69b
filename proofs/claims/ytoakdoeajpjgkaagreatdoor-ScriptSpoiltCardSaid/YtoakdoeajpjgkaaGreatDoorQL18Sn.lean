/- Part of a law's texts. Conditions: none. -/
import Derived.Test.YtoakdoeajpjgkaaGreatDoorQL18Sm
import Derived.LaidEql
open Go.Proofs.Tryz
set_option linter.all false
namespace Go.Proofs.YtoakdoeajpjgkaaGreatDoor
open Go
def HpS.opened(h:HpS)(s:Dev):HpS:={h with o:=true,S:=h.S.fresh ((h.blk s).place h.c (h.blk s).used) ((h.blk s).place h.c h.c.space)}
def HpS.begR(h:HpS)(s:Dev)(room a:Int)(h':HpS)(s':Dev):Prop:=
 (h.o=true∧a=2∧h'=h∧s'=s)∨(h.o=false∧room<0∧a=1∧h'=h∧s'=s)∨
 (h.o=false∧0≤room∧∃ a1 h1 s1,((h.c.space - (h.blk s).used<room∧HpS.colR {h with X:=none} s a1 h1 s1)∨(¬ h.c.space - (h.blk s).used<room∧a1=0∧h1={h with X:=none}∧s1=s))∧
  ((a1≠0∧a=a1∧h'=h1∧s'=s1)∨(a1=0∧h.c.space - (h1.blk s1).used<room∧a=4∧h'=h1∧s'=s1)∨(a1=0∧¬ h.c.space - (h1.blk s1).used<room∧a=0∧h'=h1.opened s1∧s'=s1)))
theorem tU(B:World)(H:List HP)(c:Cfg)(hc:bA c)(b:Blk)(sv:Value)(hb:gi c b)(hsv:aM sv=true):
 ∀ w,Holds B H w→Calls Tryz.prog 84 [dV c,lI b sv].toArray w (a8 B H (.agg #[i64 (b.place c b.used),i64 (b.place c c.space)])):=by
 refine ao func84 aa ntmps84 aa ?_
 have h1:=hb.used
 have h2:=hc.s1
 have h3:=hc.s2
 refine ac (ab (kPb (aY aa) aa fun b2=>(kPb (aY aa) aa fun b3=>(kPb (aD zeroValue155 aa) aa fun b4=>(ad (ac (cY 11 Tryz.mixed (by kernel_rfl) (by kernel_rfl) ?_)))))))
 refine kQv (ah isAgg151 sizeOf151 aa aa) aa ?_
 refine kQv (ah isAgg134 sizeOf134 aa aa) aa ?_
 refine kQv (aE (m:=_) dA aa aa) aa (kQv (ai isAgg3 aa aa) aa (bG aa (ar call137 aa) (ik _ _ c hc b sv hb hsv _ (by omega)) .free aa ?_))
 refine kQv (ah isAgg151 sizeOf151 aa aa) aa ?_
 refine kQv (ah isAgg134 sizeOf134 aa aa) aa ?_
 refine kQv (aE (m:=_) fc aa aa) aa (kQv (ai isAgg3 aa aa) aa (bG aa (ar call137 aa) (ik _ _ c hc b sv hb hsv _ (by omega)) .free aa ?_))
 refine kQv (aP aa (uz _ _ aa aa)) aa (cg (kPs (ax (vs:=_) sizeOf155 aa aa aa aa aa) aa (ad (an [4] rfl (az ?_)))))
 exact qp results84 (.cellA aa isAgg155 sizeOf155 aa aa) (fun w hw=>⟨rfl,(hw.dp [0,0,0])⟩)
theorem xW(B:World)(Fr:List HP)(bh:Nat)(h:HpS)(s:Dev)(hW:ef h s)(hb:(s.block h.c).2=0)(room:Int):
 ∀ w,Holds B (dC bh h::aB h.bd s::Fr) w→Calls Tryz.prog 46 [ptr bh,i64 room].toArray w (Ret B (fun rv H'=>∃ a h' s',h.begR s room a h' s'∧rv=i64 a∧H'=dC bh h'::aB h.bd s'::Fr) (fun ch H'=>∃ s',(fun s'=>h.o=false∧h.c.space - (h.blk s).used<room∧HpS.colOff {h with X:=none} s s') s'∧ch=dR∧H'=aB h.bd s'::Fr)):=by
 refine ao func46 aa ntmps46 aa (iR fun bs bt x=> ?_)
 have hbk:=dB (s:=s) hW.c hW.u
 have hbu:0≤(h.blk s).used∧(h.blk s).used≤h.c.space:=hbk.used
 have hs2:=hW.c.s2
 have hs1':=hW.c.s1
 have hbu1:0≤(HpS.blk {h with X:=none} s).used∧(HpS.blk {h with X:=none} s).used≤h.c.space:=hbk.used
 have hW1:ef {h with X:=none} s:=⟨hW.c,hW.k,hW.sw,hW.u,hW.t1,hW.tl,hW.tp,fun X h=>(by cases h)⟩
 refine ac (ab (kPa aa aa (ad (ac (aF (ac (ab (kPf dK isAgg146 aa aa aa aa (ay aa (ar call80 aa) (bI (q:=nG h.o) (fun Fr=>kQ B Fr bs h.S h.o)) .free aa aa ?_)))))))))
 refine kPa aa aa (ad ?_)
 refine aZ aa (fun h7=> ?_) (fun h7=> ?_)
 ·have ho:h.o=true:=by simpa using h7
  refine ac (ab (kPa aa aa (ad (az ?_))))
  exact au results46 aa (fun w hw=>⟨_,⟨2,h,s,.inl ⟨ho,rfl,rfl,rfl⟩,rfl,rfl⟩,eh (bs:=bs) (bt:=bt) (x:=x) hw⟩)
 ·have ho:h.o=false:=by simpa using h7
  refine aS [1] (aN (H':=fD bs h.S::_) (fun w hh=>by rw[ho] at hh;exact hh) (ac (ab (kPm aa aa (kPv (am aa aa aa) aa (kPa aa aa (ad (an [13,4,0,1] rfl ?_))))))))
  refine aZ aa (fun h13=> ?_) (fun h13=> ?_)
  ·have hr0:room<0:=by simpa using h13
   refine ac (ab (kPa aa aa (ad (az ?_))))
   exact au results46 aa (fun w hw=>⟨_,⟨1,h,s,.inr (.inl ⟨ho,hr0,rfl,rfl,rfl⟩),rfl,rfl⟩,wG (bs:=bs) (bt:=bt) (x:=x) ho (hw.pk [1])⟩)
  ·have hr0:0≤room:=by simpa using h13
   refine aq (ac (ab (kPm aa aa (kPv (aK aa) aa (kPv (aE (m:=_) kC aa aa) aa ?_)))))
   refine kPs (aO sizeOf147 aa aa (by first | rfl | assumption) rfl) rfl ?_;refine ad ?_;refine ac ?_;refine ac ?_;refine aS [1] ?_;refine aN (H':=cG bh bs bt x {h with X:=none}::_) (fun w hh=>hh) ?_
   refine cR [0,1,2,3,4,5,6,7,8,9,10] [7] [0,1,2,3,4,5] [7] [cG bh bs bt x {h with X:=none}] Tryz.mixed (by kernel_rfl) ?_
   refine ak aa aa aa (aj aa) .free aa (ak aa aa aa (aj aa) .free aa (ak aa aa aa (aK aa) .free aa (ak aa aa aa (aE (m:=_) dZ aa aa) .free aa (ak aa aa aa (aE (m:=_) fc aa aa) .free aa (ak aa aa aa (ai isAgg3 aa aa) .free aa (aQ aa aa aa (aj aa) .free aa (aT aa aa (aS [0,3] (aI aa (ar call81 aa) (gD B _ bh bs bt x {h with X:=none} s hW.c hW.u) .free aa aa ?_)))))))))
   rintro _ _ ⟨sv,hsv,rfl,rfl⟩
   refine cE fun qb cb hqb hqbi=> ?_
   subst hqb
   refine ad (cN (aQ aa aa aa (ie runUnderlying151 (t:=3) (off:=1) aa isAgg3 aa aa) .free aa (aQ aa aa aa (lC (c:=h.c.space - (h.blk s).used) aa aa (show IntKind.i64.wrap (h.c.space - (h.blk s).used)=_ from fR (by omega))) .free aa (aQ aa aa aa (am aa aa aa) .free aa (cx (an [29,4,0,1] rfl ?_))))))
   refine aZ aa (fun h29=> ?_) (fun h29=> ?_)
   ·have hroom:(h.c.space - (h.blk s).used<room):=by simpa using h29
    refine aN (H':=dC bh {h with X:=none}::aB h.bd s::Fr) (fun w hh=>tK (h:={h with X:=none}) (bs:=bs) (bt:=bt) (x:=x) ho aa ((hh.dp [0,4]).pk [0,1,1])) (ac (ab (kPm aa aa ?_)))
    refine aU aa (ar call82 aa) (rH B _ bh {h with X:=none} s hW1 hb) .free aa aa ?_ ?_
    rotate_left
    ·rintro _ _ ⟨s9,hm9,rfl,rfl⟩
     exact bi fun w hh=>⟨_,⟨s9,⟨ho,hroom,hm9⟩,rfl,rfl⟩,(show Holds B (aB h.bd s9::_) w from hh)⟩
    rintro _ _ ⟨a1,h1,s1,hr1,rfl,rfl⟩
    obtain⟨hW2,ho2,hx2,hbd2,hc2⟩:=DU hW1 ho hr1
    have hbd3:h1.bd=h.bd:=hbd2
    have hc3:h1.c=h.c:=hc2
    refine kPa aa aa (ad (ac (ab (kPm aa aa (kPv (am aa aa aa) aa (ad ?_))))))
    refine aZ aa (fun h33=> ?_) (fun h33=> ?_)
    ·have ha1:a1≠0:=by simpa using h33
     refine ac (ab (kPm aa aa (kPa aa aa (ad (an [4,0,1] rfl (az ?_))))))
     exact au results46 aa (fun w hw=>⟨_,⟨a1,h1,s1,.inr (.inr ⟨ho,hr0,a1,h1,s1,.inl ⟨hroom,hr1⟩,.inl ⟨ha1,rfl,rfl,rfl⟩⟩),rfl,rfl⟩,hw⟩)
    ·have ha1:a1=0:=by simpa using h33
     refine aq (ac (iR fun bs2 bt2 x2=>(aS [0,3] (aN (H':=cG bh bs2 bt2 x2 h1::aB h1.bd s1::_) (fun w hh=>by rw[hbd3];exact hh) ?_))))
     have hbk2:=dB (s:=s1) hW2.c hW2.u
     have hbu2:0≤(h1.blk s1).used∧(h1.blk s1).used≤h1.c.space:=hbk2.used
     have hs3:=hW2.c.s2
     refine ab (kPm aa aa (aI aa (ar call81 aa) (gD B _ bh bs2 bt2 x2 h1 s1 hW2.c hW2.u) .free aa aa ?_))
     rintro _ _ ⟨sv,hsv,rfl,rfl⟩
     refine cE fun qb cb hqb hqbi=> ?_
     subst hqb
     refine kPb (aD zeroValue151 aa) aa fun b6=> ?_
     refine kPs (ax (vs:=_) sizeOf151 aa aa aa (by first | rfl | exact dW (by assumption)) rfl) rfl ?_;refine ad ?_;refine an [6,4,0,1] rfl ?_;refine ac ?_;refine ac ?_;refine aN (H':=row b6 [i64 (h1.blk s1).act,i64 (h1.blk s1).used,.slice qb (h1.blk s1).rts.length cb] 151::_) (fun w hh=>hh) ?_;refine cK Tryz.mixed (by kernel_rfl) (by kernel_rfl) ?_;refine kQm aa aa ?_
     refine kQm aa aa (kQv (aK aa) aa (kQv (aE (m:=_) dZ aa aa) aa (kQv (aE (m:=_) fc aa aa) aa (kQv (ai isAgg3 aa aa) aa (kQv (aE (m:=_) dA aa aa) aa (kQv (ai isAgg3 aa aa) aa (kQv (fk aa aa) aa (kQv (am aa aa aa) aa (cg (an [46,6,4,0] rfl ?_))))))))))
     refine aZ aa (fun h46=> ?_) (fun h46=> ?_)
     ·have hr2:h.c.space - (h1.blk s1).used<room:=by rw[←hc3];simpa using h46
      refine ac (ab (kPa aa aa (ad (az ?_))))
      exact au results46 aa (fun w hw=>⟨_,⟨4,h1,s1,.inr (.inr ⟨ho,hr0,a1,h1,s1,.inl ⟨hroom,hr1⟩,.inr (.inl ⟨ha1,hr2,rfl,rfl,rfl⟩)⟩),rfl,rfl⟩,by
   have h9:=eh (h:=h1) (bs:=bs2) (bt:=bt2) (x:=x2) ((hw.dp [0,0]).pk [0,1,1,1])
   rw[hbd3] at h9;exact h9⟩)
     ·have hr2:¬ h.c.space - (h1.blk s1).used<room:=by rw[←hc3];simpa using h46
      refine aS [4] (aN (H':=fD bs2 h1.S::_) (fun w hh=>by rw[ho2] at hh;exact hh) (aq (ac (cY 10 Tryz.mixed (by kernel_rfl) (by kernel_rfl) ?_))))
      refine kQm aa aa (kQv (aK aa) aa (kQv (aE (m:=_) dK aa aa) aa (kQv (ai isAgg146 aa aa) aa (kQm aa aa (kQv (aK aa) aa (kQv (aE (m:=_) dZ aa aa) aa (kQv (ah isAgg134 sizeOf134 aa aa) aa ?_)))))))
      refine kQv (ah isAgg151 sizeOf151 aa aa) aa ?_
      refine bG aa (ar call84 aa) (tU _ _ h1.c hW2.c (h1.blk s1) (.slice qb (h1.blk s1).rts.length cb) hbk2 aa) .free aa ?_
      refine cg (dQ aa (ar call83 aa) (jE B _ bs2 h1.S _ _) .free aa aa ?_)
      refine kPa aa aa (ad (an [4] rfl (az ?_)))
      exact au results46 aa (fun w hw=>⟨_,⟨0,h1.opened s1,s1,.inr (.inr ⟨ho,hr0,a1,h1,s1,.inl ⟨hroom,hr1⟩,.inr (.inr ⟨ha1,hr2,rfl,rfl,rfl⟩)⟩),rfl,rfl⟩,by
   have h9:=qM rfl (h:=h1.opened s1) (bs:=bs2) (bt:=bt2) (x:=x2) ((hw.dp [1,1]).pk [1,0,1,1])
   rw[hbd3] at h9;exact h9⟩)
   ·have hroom:¬ (h.c.space - (h.blk s).used<room):=by simpa using h29
    obtain⟨h1,hh1⟩:∃ h1:HpS,h1={h with X:=none}:=⟨_,rfl⟩
    obtain⟨s1,hs1⟩:∃ s1,s1=s:=⟨_,rfl⟩
    obtain⟨a1,ha1⟩:∃ a1:Int,a1=0:=⟨_,rfl⟩
    have hW2:ef h1 s1:=by rw[hh1,hs1];exact hW1
    have ho2:h1.o=false:=by rw[hh1];exact ho
    have hbd3:h1.bd=h.bd:=by rw[hh1]
    have hc3:h1.c=h.c:=by rw[hh1]
    refine aN (H':=dC bh h1::aB h.bd s1::Fr) (fun w hh=>by rw[hh1,hs1];exact tK (h:={h with X:=none}) (bs:=bs) (bt:=bt) (x:=x) ho aa ((hh.dp [0,4]).pk [0,1,1])) (aq (ac (iR fun bs2 bt2 x2=>(aS [0,3] (aN (H':=cG bh bs2 bt2 x2 h1::aB h1.bd s1::_) (fun w hh=>by rw[hbd3];exact hh) ?_)))))
    have hbk2:=dB (s:=s1) hW2.c hW2.u
    have hbu2:0≤(h1.blk s1).used∧(h1.blk s1).used≤h1.c.space:=hbk2.used
    have hs3:=hW2.c.s2
    refine ab (kPm aa aa (aI aa (ar call81 aa) (gD B _ bh bs2 bt2 x2 h1 s1 hW2.c hW2.u) .free aa aa ?_))
    rintro _ _ ⟨sv,hsv,rfl,rfl⟩
    refine cE fun qb cb hqb hqbi=> ?_
    subst hqb
    refine kPb (aD zeroValue151 aa) aa fun b6=> ?_
    refine kPs (ax (vs:=_) sizeOf151 aa aa aa (by first | rfl | exact dW (by assumption)) rfl) rfl ?_;refine ad ?_;refine ac ?_;refine ac ?_;refine aN (H':=row b6 [i64 (h1.blk s1).act,i64 (h1.blk s1).used,.slice qb (h1.blk s1).rts.length cb] 151::_) (fun w hh=>hh) ?_;refine cK Tryz.mixed (by kernel_rfl) (by kernel_rfl) ?_;refine kQm aa aa ?_;refine kQm aa aa ?_
    refine kQv (aK aa) aa (kQv (aE (m:=_) dZ aa aa) aa (kQv (aE (m:=_) fc aa aa) aa (kQv (ai isAgg3 aa aa) aa (kQv (aE (m:=_) dA aa aa) aa (kQv (ai isAgg3 aa aa) aa (kQv (fk aa aa) aa (kQv (am aa aa aa) aa (cg (an [46,6,4,0] rfl ?_)))))))))
    refine aZ aa (fun h46=> ?_) (fun h46=> ?_)
    ·have hr2:h.c.space - (h1.blk s1).used<room:=by rw[←hc3];simpa using h46
     refine ac (ab (kPa aa aa (ad (az ?_))))
     exact au results46 aa (fun w hw=>⟨_,⟨4,h1,s1,.inr (.inr ⟨ho,hr0,a1,h1,s1,.inr ⟨hroom,ha1,hh1,hs1⟩,.inr (.inl ⟨ha1,hr2,rfl,rfl,rfl⟩)⟩),rfl,rfl⟩,by
   have h9:=eh (h:=h1) (bs:=bs2) (bt:=bt2) (x:=x2) ((hw.dp [0,0]).pk [0,1,1,1])
   rw[hbd3] at h9;exact h9⟩)
    ·have hr2:¬ h.c.space - (h1.blk s1).used<room:=by rw[←hc3];simpa using h46
     refine aS [4] (aN (H':=fD bs2 h1.S::_) (fun w hh=>by rw[ho2] at hh;exact hh) (aq (ac (cY 10 Tryz.mixed (by kernel_rfl) (by kernel_rfl) ?_))))
     refine kQm aa aa (kQv (aK aa) aa (kQv (aE (m:=_) dK aa aa) aa (kQv (ai isAgg146 aa aa) aa (kQm aa aa (kQv (aK aa) aa (kQv (aE (m:=_) dZ aa aa) aa (kQv (ah isAgg134 sizeOf134 aa aa) aa ?_)))))))
     refine kQv (ah isAgg151 sizeOf151 aa aa) aa ?_
     refine bG aa (ar call84 aa) (tU _ _ h1.c hW2.c (h1.blk s1) (.slice qb (h1.blk s1).rts.length cb) hbk2 aa) .free aa ?_
     refine cg (dQ aa (ar call83 aa) (jE B _ bs2 h1.S _ _) .free aa aa ?_)
     refine kPa aa aa (ad (an [4] rfl (az ?_)))
     exact au results46 aa (fun w hw=>⟨_,⟨0,h1.opened s1,s1,.inr (.inr ⟨ho,hr0,a1,h1,s1,.inr ⟨hroom,ha1,hh1,hs1⟩,.inr (.inr ⟨ha1,hr2,rfl,rfl,rfl⟩)⟩),rfl,rfl⟩,by
   have h9:=qM rfl (h:=h1.opened s1) (bs:=bs2) (bt:=bt2) (x:=x2) ((hw.dp [1,1]).pk [1,0,1,1])
   rw[hbd3] at h9;exact h9⟩)
theorem Bp{B:World}{n:Nat}{D:List Deferred}{σ:Env}{b:Nat}{o:Bool}{S:bE}{Fr:List HP}{K:Act→World→Prop}(h:∀ bl o1 o2 M,(∀ Fr w,Holds B (de b bl S o o1 o2::cX bl S.L::M::Fr) w→Holds B (nG o b S::Fr) w)→GO B n D σ (de b bl S o o1 o2::cX bl S.L::M::Fr) K):GO B n D σ (nG o b S::Fr) K:=by
 cases o
 ·refine kW fun bl o1 o2=> ?_
  refine aN (fun w hh=>(hh.unpr (p:=True) trivial).back 2 (by simp)) (h bl o1 o2 (pr True) fun Fr w hh=> ?_)
  exact dP ((hh.front 2 aa).pr.2)
 ·refine ma fun bl o1 o2=> ?_
  refine aN (H':=de b bl S true (some o1) (some o2)::cX bl S.L::grp [bz .i64 cf o1 S.seen,bz .i64 cf o2 S.dirty]::Fr) (fun w hh=> ?_) (h bl _ _ _ fun Fr w hh=> ?_)
  ·exact(Holds.ungrp (l:=[bz .i64 cf o1 S.seen,bz .i64 cf o2 S.dirty]) ((hh.front 2 aa).front 3 aa |>.front 1 aa)).back 2 (by simp)
  ·exact fu ((((hh.front 2 aa).grp).front 2 aa).front 3 aa |>.front 1 aa)
structure Cq where
 used:Int
 reached:Int
 handles:Int
 records:Int
 open_:Bool
def HpS.stats(h:HpS)(s:Dev):Cq:=⟨(h.blk s).used,s.reachSize h.c (h.blk s) (h.words++(h.blk s).rts),h.T.at_.length,h.S.L.n,h.o⟩
abbrev Cb(x:Cq):Value:= .agg #[i64 x.used,i64 x.reached,i64 x.handles,i64 x.records,.bool x.open_]
theorem xp(B:World)(Fr:List HP)(bs bl:Nat)(S:bE)(o:Bool)(o1 o2:Option Nat):
 ∀ w,Holds B (de bs bl S o o1 o2::Fr) w→Calls Tryz.prog 80 [ptr bs].toArray w (a8 B (de bs bl S o o1 o2::Fr) (.bool o)):=by
 refine ao func80 aa ntmps80 aa (ac (ab (kPa aa aa (ad (ac (ab (kPf dJ isAgg4 aa aa aa aa (kPa aa aa (ad (az ?_))))))))))
 exact au results80 aa (fun w hw=>⟨rfl,hw⟩)
theorem qH(B:World)(Fr:List HP)(bh:Nat)(h:HpS)(s:Dev)(hW:ef h s):
 ∀ w,Holds B (dC bh h::aB h.bd s::Fr) w→Calls Tryz.prog 50 [ptr bh].toArray w (a8 B (dC bh h::aB h.bd s::Fr) (Cb (h.stats s))):=by
 refine ao func50 aa ntmps50 aa (iR fun bs bt x=>(aS [1] (Bp fun bl o1 o2 M hM=>(aS [3] ?_))))
 have hbk:=dB (s:=s) hW.c hW.u
 have hbl:(h.blk s).rts.length≤16:=fM (s:=s) hW.c
 obtain⟨hwb,hwl⟩:=HpS.words_b hW
 have hwb2:∀ v∈h.words++(h.blk s).rts,0≤v∧v<18446744073709551616:=fun v hv=>(List.mem_append.1 hv).elim (hwb v) (fL hW.u v)
 refine ac (ab (kPb (aD zeroValue106 aa) aa fun b2=>(ad (ac (ab (kPm aa aa (aS [1,6] (aI aa (ar call81 aa) (gD B _ bh bs bt x h s hW.c hW.u) .free aa aa ?_))))))))
 rintro _ _ ⟨sv,hsv,rfl,rfl⟩
 refine cE fun qb cb hqb hqbi=> ?_
 subst hqb
 refine kPb (aD zeroValue151 aa) aa fun b3=> ?_
 refine kPs (ax (vs:=_) sizeOf151 aa aa aa (by first | rfl | exact dW (by assumption)) rfl) rfl ?_;refine ad ?_;refine ac ?_;refine aN (H':=row b3 [i64 (h.blk s).act,i64 (h.blk s).used,.slice qb (h.blk s).rts.length cb] 151::_) (fun w hh=>hh) ?_
 refine cR [0,1,2,3,4,5,6,7,8,9,10,11,14,15,16,17,20,21,22,23,24,25,26,28,29,30,31,12,13,18,19,27,32,33,34] [12,13,18,27,32,34] [0,1,2,3,4,5,6,7,8,9,10,14,15,16,17,20,21,22,23,24,25,26,28,29,30,31,19] [12,13,18,27,32] [cG bh bs bt x h,row b3 [i64 (h.blk s).act,i64 (h.blk s).used,.slice qb (h.blk s).rts.length cb] 151,de bs bl h.S h.o o1 o2] Tryz.mixed (by kernel_rfl) ?_
 refine ak aa aa aa (aE (m:=_) dA aa aa) .free aa (ak aa aa aa (ai isAgg3 aa aa) .free aa (ak aa aa aa (aj aa) .free aa (ak aa aa aa (aK aa) .free aa (ak aa aa aa (aE (m:=_) iy aa aa) .free aa (ak aa aa aa (ai isAgg90 aa aa) .free aa (ak aa aa aa (aj aa) .free aa (ak aa aa aa (aK aa) .free aa (ak aa aa aa (aE (m:=_) dZ aa aa) .free aa (ak aa aa aa (ah isAgg134 sizeOf134 aa aa) .free aa ?_)))))))))
 refine ak aa aa aa (ah isAgg151 sizeOf151 aa aa) .free aa ?_
 refine aQ aa aa aa (aj aa) .free aa (ak aa aa aa (aj aa) .free aa (ak aa aa aa (aK aa) .free aa (ak aa aa aa (aE (m:=_) jk aa aa) .free aa (ak aa aa aa (ai isAgg130 aa aa) .free aa (ak aa aa aa (aj aa) .free aa (ak aa aa aa (aK aa) .free aa (ak aa aa aa (aE (m:=_) dK aa aa) .free aa (ak aa aa aa (ai isAgg146 aa aa) .free aa (ak aa aa aa (aK aa) .free aa (ak aa aa aa (aE (m:=_) iw aa aa) .free aa (ak aa aa aa (ai isAgg168 aa aa) .free aa ?_)))))))))))
 refine ak aa aa aa (aj aa) .free aa (ak aa aa aa (aK aa) .free aa (ak aa aa aa (aE (m:=_) dK aa aa) .free aa (ak aa aa aa (ai isAgg146 aa aa) .free aa (aT aa aa (aS [2,7,2] (aI aa (ar call91 aa) (Bo B _ bh bs bt x h s hW) .free aa aa ?_))))))
 rintro av _ ⟨hav,rfl⟩
 refine cE fun qa ca hqa hqai=> ?_
 subst hqa
 refine ad (cN (aS [3] (aT aa aa (ay aa (ar call90 aa) (n8 B _ h.bd h.c hW.c (h.blk s) (.slice qb (h.blk s).rts.length cb) hbk aa s qa ca (h.words++(h.blk s).rts) hwb2 (by simp;omega) hqai (cQ (1 - 1) aa)) .free aa aa ?_))))
 refine ad (cN (aT aa aa (aS [3] (aI aa (ar call92 aa) (nq B _ bt h.T (by have:=hW.tl;omega)) .free aa aa ?_))))
 rintro rv _ rfl
 refine aN (fun w hh=>uB hh) (cE fun qn cn hqn hqi=> ?_)
 subst hqn
 refine ad (cN (ak aa aa aa (bB aa runUnderlying166 ⟨_,rfl⟩ rfl) .free aa (aT aa aa (ay aa (ar call93 aa) (bI (q:=cX) (fun Fr=>wy _ Fr bl h.S.L)) .free aa aa ?_))))
 refine ad (cN (aS [8] (aT aa aa (ay aa (ar call80 aa) (xp B _ bs bl h.S h.o o1 o2) .free aa aa ?_))))
 refine ad (cN (aQ aa aa aa (aP aa (mB _ _ _ _ _ aa aa aa aa aa)) .free aa (aT aa aa (kPs (ax (vs:=_) sizeOf106 aa aa aa aa aa) aa (ad (c7 aa (cx (an [2] rfl (az ?_)))))))))
 exact qp results50 (.cellA aa isAgg106 sizeOf106 aa aa) (fun w hw=>⟨by simp[HpS.stats,cj];rfl,eh (bs:=bs) (bt:=bt) (x:=x) ((hM _ _ ((hw.dp [1,3,4,4,4]).pk [0,3,3,2,0,1])).front 1 aa)⟩)
theorem uX{s:Dev}(h:s.pow.lim<0):s.pow.out=false:=by unfold Pow.out;simp;omega
theorem sH{s:Dev}(h:s.pow.lim<0)(i v:Int):∃ a s',s.store i v= .ok a s'∧s'.pow.lim<0:=by
 unfold Dev.store
 split
 ·exact⟨_,_,rfl,h⟩
 ·rw[if_neg (by rw[uX h];decide)];exact⟨_,_,rfl,h⟩
theorem tX{s:Dev}(h:s.pow.lim<0)(i:Int):∃ a s',s.flush i= .ok a s'∧s'.pow.lim<0:=by
 unfold Dev.flush
 split
 ·exact⟨_,_,rfl,h⟩
 ·rw[if_neg (by rw[uX h];decide)];exact⟨_,_,rfl,h⟩
theorem tZ{s:Dev}(h:s.pow.lim<0):∃ s',s.fence= .ok () s'∧s'.pow.lim<0:=by
 unfold Dev.fence
 rw[if_neg (by rw[uX h];decide)];exact⟨_,rfl,h⟩
theorem wh{c:Cfg}:∀ (k:Nat) (s:Dev),s.pow.lim<0→∃ s',lh jX c k s= .ok () s'∧s'.pow.lim<0
 | 0,s,h=>⟨s,rfl,h⟩
 | k+1,s,h=>by
   unfold lh jX
   obtain⟨a,s1,e1,h1⟩:=sH h (IntKind.i64.wrap (s.load (c.record k+1))) (s.load (c.record k+2))
   obtain⟨a2,s2,e2,h2⟩:=tX h1 (IntKind.i64.wrap (s.load (c.record k+1)))
   rw[e1]
   simp only[aR]
   rw[e2]
   simp only[aR]
   exact wh k s2 h2
theorem sA{L:bR}{s:Dev}(h:s.pow.lim<0):∃ L' s',L.truncate s= .ok L' s'∧s'.pow.lim<0:=by
 unfold bR.truncate
 split
 ·exact⟨_,_,rfl,h⟩
 ·obtain⟨a,s1,e1,h1⟩:=sH h 8 ((L.epoch+1)%4294967296)
  obtain⟨a2,s2,e2,h2⟩:=tX h1 8
  obtain⟨s3,e3,h3⟩:=tZ h2
  rw[e1];simp only[aR];rw[e2];simp only[aR];rw[e3]
  exact⟨_,_,rfl,h3⟩
theorem AQ{L:bR}{s:Dev}(h:s.pow.lim<0):∃ L' s',L.undo s= .ok L' s'∧s'.pow.lim<0:=by
 unfold bR.undo
 obtain⟨s1,e1,h1⟩:=wh (c:=L.c) L.n.toNat s h
 rw[e1]
 simp only[aR]
 split
 ·obtain⟨s2,e2,h2⟩:=tZ h1
  rw[e2];exact sA h2
 ·exact sA h1
def cpD(s:Dev)(pa:Nat):Dev:=⟨pa,⟨-1,0⟩,s.n,fun i=>(tab s.n s.now).getD i 0,fun i=>(tab s.n s.now).getD i 0,fun _=>none⟩
theorem Cn{s:Dev}(hu:U64 s)(pa:Nat):U64 (cpD s pa):=fun i=>by
 show 0≤(tab s.n s.now).getD i 0∧(tab s.n s.now).getD i 0<_
 by_cases hi:i<s.n
 ·have e:tab s.n s.now=(List.range s.n).map s.now:=rfl
  rw[e,List.getD_eq_getElem?_getD]
  simp[hi];exact hu i
 ·rw[List.getD_eq_getElem?_getD,List.getElem?_eq_none (by rw[aX];omega)];decide
theorem SlR.tb{B:World}{H:List HP}{n b cap:Nat}{f:Nat→Value}{rest:List Value}{T:TypeId}{U:List Value→List HP}[fQ H b (tab n f++rest) T U]:SlR B H (.slice (some ⟨b,0,none⟩) n cap) (tab n f):=
 SlR.row (cs:=Proofs.YtoakdoeajpjgkaaGreatDoor.tab n f++rest) (T:=T) (U:=U) (by rw[List.drop_zero,List.take_append_of_le_length (by rw[aX];omega),List.take_of_length_le (by rw[aX];omega)]) (by rw[aX])
theorem A6{s:Dev}(h:s.readC.2=0):bA s.readC.1∧(s.n:Int)=s.readC.1.words:=by
 unfold Dev.readC at h ⊢
 split at h
 ·cases h
 split at h
 ·cases h
 split at h
 ·cases h
 ·rename_i h1 h2 h3
  rw[if_neg h1,if_neg h2,if_neg h3]
  simp only
  constructor
  ·exact Classical.byContradiction fun h4=>h3 (.inl h4)
  ·exact Classical.byContradiction fun h4=>h3 (.inr h4)
def tk(bd:Nat)(s:Dev)(e:Int):Prop:=
 (s.readC.2≠0∧e=s.readC.2)∨(s.readC.2=0∧0≤jZ s s.readC.1 (bZ bd s.readC.1 s).n.toNat 0∧e=9)∨
 (s.readC.2=0∧jZ s s.readC.1 (bZ bd s.readC.1 s).n.toNat 0<0∧∃ bc pa L1 t1,(bZ bc s.readC.1 (cpD s pa)).undo (cpD s pa)= .ok L1 t1∧e=t1.check s.readC.1)
def iQ(bd:Nat)(c:Cfg)(s:Dev):HpS:=⟨bd,c,⟨bZ bd c s,0,0,[],[]⟩,false,⟨[],[],0⟩,none⟩
theorem xT(B:World)(Fr:List HP)(bd:Nat)(s:Dev)(hu:U64 s)(hn:s.n≤100000):
 ∀ w,Holds B (aB bd s::Fr) w→Calls Tryz.prog 75 [ptr bd].toArray w (Ret B (fun rv H'=>(∃ e,e≠0∧tk bd s e∧rv= .tuple #[.pointer none,i64 e]∧H'=aB bd s::Fr)∨(∃ bh L' s',tk bd s 0∧(bZ bd s.readC.1 s).undo s= .ok L' s'∧rv= .tuple #[ptr bh,i64 0]∧H'=dC bh (iQ bd s.readC.1 s')::aB bd s'::Fr)) (fun ch H'=>∃ s',tk bd s 0∧(bZ bd s.readC.1 s).undo s= .off s'∧ch=dR∧H'=aB bd s'::Fr)):=by
 refine ao func75 aa ntmps75 aa (lq bd fun hn1 hn2 hn3=>(ac (ab (kPa aa aa (kPa aa aa (ad (ac (ab (kPm aa aa (ay aa (ar call123 aa) (bI (q:=aB) (fun Fr=>rt _ Fr bd s)) .free aa aa ?_))))))))))
 refine kPm aa aa (kPv (aA aa aa) aa (kPv (aA aa aa) aa (kPb (aD zeroValue134 aa) aa fun b4=>(kPs (ax (vs:=_) sizeOf134 aa aa aa aa aa) aa (kPa aa aa (ad (ac (ac (ab (kPm aa aa (kPv (am aa aa aa) aa ?_)))))))))))
 refine ad ?_
 refine aZ aa (fun h15=> ?_) (fun h15=> ?_)
 ·have hc0:s.readC.2≠0:=by simpa using h15
  refine ac (ab (kPm aa aa (kPa aa aa (kPa aa aa (ad (an [3,2,4,0] rfl (az ?_)))))))
  exact bU results75 aa aa (fun w hw=>⟨_,.inl ⟨_,hc0,.inl ⟨hc0,rfl⟩,rfl,rfl⟩,(hw.dp [0])⟩)
 ·have hc0:s.readC.2=0:=by simpa using h15
  have hc:=(A6 hc0).1
  have hLw:dG (bZ bd s.readC.1 s):=iE hc
  refine aq (ac (ab (kPm aa aa (kPv (ah isAgg134 sizeOf134 aa aa) aa ?_))))
  refine aS [1] (aI aa (ar call124 aa) (kl B _ bd s s.readC.1 hc) .free aa aa ?_)
  rintro _ _ ⟨bl,rfl,rfl⟩
  refine kPa aa aa (ad (an [6,4,3,2,0] rfl (ac (ac (ab (kPm aa aa (ay aa (ar call125 aa) (zs B _ bl (bZ bd s.readC.1 s) s hLw) .free aa aa ?_)))))))
  refine kPv (am aa aa aa) aa (ad ?_)
  refine aZ aa (fun h22=> ?_) (fun h22=> ?_)
  ·have hg:0≤jZ s s.readC.1 (bZ bd s.readC.1 s).n.toNat 0:=by
    have h9:0≤jZ s (bZ bd s.readC.1 s).c (bZ bd s.readC.1 s).n.toNat 0:=by simpa using h22
    exact h9
   refine ac (ab (kPa aa aa (kPa aa aa (ad (az ?_)))))
   exact bU results75 aa aa (fun w hw=>⟨_,.inl ⟨9,by decide,.inr (.inl ⟨hc0,hg,rfl⟩),rfl,rfl⟩,(hw.dp [0,1])⟩)
  ·have hg:jZ s s.readC.1 (bZ bd s.readC.1 s).n.toNat 0<0:=by
    have h9:jZ s (bZ bd s.readC.1 s).c (bZ bd s.readC.1 s).n.toNat 0<0:=by simpa using h22
    exact h9
   refine aq (ac (ab (aI aa (ar call127 aa) (rx _ _ _) .free aa aa ?_)))
   rintro _ _ ⟨pb,rfl,rfl⟩
   refine kPm aa aa (aS [2] (aI aa (ar call128 aa) (xC _ _ bd s) .free aa aa ?_))
   rintro _ _ ⟨bw,rest,rfl,rfl⟩
   refine aS [2] (aI aa (ar call126 aa) (wq B _ pb ⟨-1,0⟩ _ (tab s.n s.now) (by rw[aX];omega) (by rw[aX];omega) (by rw[lR];exact SlR.tb)) .free aa aa ?_)
   rintro _ _ ⟨bc,rfl,rfl⟩
   refine aN (H':=aB bc (cpD s pb)::_) (fun w hh=>by unfold cpD;rw[aX,show(s.n+7) / 8*8=s.n by omega] at hh;exact hh) ?_
   obtain⟨L1,t1,hu1,_⟩:=AQ (s:=cpD s pb) (L:=bZ bc s.readC.1 (cpD s pb)) (show(-1:Int)<0 by decide)
   have hk1:=yF (iE hc) hu1
   have hut1:=hk1.1 (Cn hu pb)
   refine kPa aa aa (ad (an [7,6,4,3,2,0] rfl (ac (ab (kPm aa aa (kPv (ah isAgg134 sizeOf134 aa aa) aa ?_))))))
   refine aI aa (ar call124 aa) (kl B _ bc (cpD s pb) s.readC.1 hc) .free aa aa ?_
   rintro _ _ ⟨bl2,rfl,rfl⟩
   refine aU aa (ar call129 aa) (pd B _ bl2 (bZ bc s.readC.1 (cpD s pb)) (cpD s pb) (iE hc)) .free aa aa ?_ ?_
   rotate_left
   ·rintro _ _ ⟨s9,hm9, -, -⟩
    cases hu1.symm.trans hm9
   rintro _ _ ⟨L9,t9,hm9,rfl,rfl⟩
   cases hu1.symm.trans hm9
   refine aN (H':=cX bl2 _::aB bc t1::_) (fun w hh=>hh) (ad (ac (ac (aS [1] (ab (kPm aa aa (kPv (ah isAgg134 sizeOf134 aa aa) aa ?_)))))))
   refine ay aa (ar call130 aa) (la B _ bc t1 s.readC.1 hc hut1) .free aa aa ?_
   refine kPa aa aa (ad (an [8,6,4,3,2,0] rfl (ac (ab (kPm aa aa (kPv (am aa aa aa) aa (ad ?_)))))))
   refine aZ aa (fun h35=> ?_) (fun h35=> ?_)
   ·have hk:t1.check s.readC.1≠0:=by simpa using h35
    refine ac (ab (kPm aa aa (kPa aa aa (kPa aa aa (ad (az ?_))))))
    exact bU results75 aa aa (fun w hw=>⟨_,.inl ⟨_,hk,.inr (.inr ⟨hc0,hg,bc,pb,L1,t1,hu1,rfl⟩),rfl,rfl⟩,(hw.dp [0,0,0,1,1])⟩)
   ·have hk:t1.check s.readC.1=0:=by simpa using h35
    have hE:tk bd s 0:= .inr (.inr ⟨hc0,hg,bc,pb,L1,t1,hu1,hk.symm⟩)
    refine aq (ac (ab (kPm aa aa (aS [4,3] ?_))))
    refine aU aa (ar call129 aa) (pd B _ bl (bZ bd s.readC.1 s) s hLw) .free aa aa ?_ ?_
    rotate_left
    ·rintro _ _ ⟨s9,hm9,rfl,rfl⟩
     exact bi fun w hh=>⟨_,⟨s9,hE,hm9,rfl,rfl⟩,(show Holds B (cX bl _::aB bd s9::_) w from hh).dp [0,1,1,1,1]⟩
    rintro _ _ ⟨L3,s2,hm3,rfl,rfl⟩
    refine aN (H':=cX bl _::aB bd s2::_) (fun w hh=>hh) (ad (ac (aS [5] (aN (H':=row b4 [i64 s.readC.1.log,i64 s.readC.1.roots,i64 s.readC.1.space] 134::_) (fun w hh=>hh) (cR [0,1,2,3,4,5,6,7,8,9] [4,5,7] [0,1] [4,5] [row b4 [i64 s.readC.1.log,i64 s.readC.1.roots,i64 s.readC.1.space] 134] Tryz.mixed (by kernel_rfl) ?_)))))
    refine ak aa aa aa (aj aa) .free aa (ak aa aa aa (ah isAgg134 sizeOf134 aa aa) .free aa ?_)
    refine aQ aa aa aa (aj aa) .free aa (aQ aa aa aa (ah isAgg134 sizeOf134 aa aa) .free aa ?_)
    refine aT aa aa (aS [2] (aI aa (ar call115 aa) (rm B _ bd s2 s.readC.1 hc) .free aa aa ?_))
    rintro _ _ ⟨bs,rfl,rfl⟩
    refine ad (cN (aT aa aa (aI aa (ar call71 aa) (wF _ _) .free aa aa ?_)))
    rintro _ _ ⟨bt,rfl,rfl⟩
    refine ad (cN ?_)
    refine aQ aa aa aa (aP aa (nF _ _ _ _ _ _ (by first | rfl | assumption) (by first | rfl | assumption) (by first | rfl | assumption))) .free rfl ?_;refine aT aa aa ?_;refine kPb (aY aa) aa fun b46=> ?_;refine ad ?_;refine c7 aa ?_;refine aQ aa aa aa (bu aa) .free aa ?_;refine aQ aa aa aa (bu aa) .free aa ?_;refine cx ?_;refine an [3,2] rfl ?_;refine az ?_
    exact bU results75 aa aa (fun w hw=>⟨_,.inr ⟨b46,L3,s2,hE,hm3,rfl,rfl⟩,tK (h:=iQ bd s.readC.1 s2) (bs:=bs) (bt:=bt) (x:=0) aa aa ((hw.dp [4,4,4,4,4]).pk [0,1])⟩)
structure Nd where
 wd:Int
 rf:Int
 names:List (Option Nat)
 nums:List Int
 nv:Value
 vv:Value
inductive Un where
 | used (c1 c2:Nat) (was:Int)
 | num (c1 c2 c3 n:Nat) (i was:Int)
 | name (c1 c2 c3 n:Nat) (i:Int) (was:Option Nat)
 | root (c1 c2 c3:Nat) (i:Int) (was:Option Nat)
structure Md where
 c:Cfg
 roots:List (Option Nat)
 used:Int
 hs:List (Option Nat)
 o:Bool
 seen:List (Option Nat×Int)
 fresh:List (Option Nat)
 undo:List Un
 left:Int
 thn:Int
 ids:List Nat
 g:Nat→Nd
section
variable {B:World} {n:Nat} {D:List Deferred} {σ:Env} {H Fr:List HP} {P:Program} {K:Act→World→Prop} {bm b:Nat} {M:Md} {x:Nd} {ids:List Nat} {g:Nat→Nd} {w:World} {rv hv sv fv uv:Value} {us us':List Un} {u:Un}
section
variable {d:Option Tmp} {ty:TypeId} {p:String} {af:Array Edge} {gd:Option (Nat×Bool)}
end
theorem A7{f:FuncId}{vs:Array Value}{v:Value}{H H1:List HP}(is js:List Nat)[mC is H H1][mC js H1 H](h:∀ w,Holds B H1 w→Calls P f vs w (a8 B H1 v)):∀ w,Holds B H w→Calls P f vs w (a8 B H v):=
 fun w hw=>(h w (hw.pk is)).mono fun _ _ ⟨h1,h2⟩=>⟨h1,h2.pk js⟩
end
abbrev eF(bm br n:Nat)(c:Cfg):HP:=row bm [i64 c.log,i64 c.roots,i64 c.space,.slice (some ⟨br,0,none⟩) n n,i64 0,.slice none 0 0,.bool false,.slice none 0 0,.slice none 0 0,.slice none 0 0,i64 (-1),i64 0] 145
abbrev eE(br n:Nat):HP:=row br (List.replicate n (.pointer none)) 209
theorem Be(B:World)(H:List HP)(c:Cfg)(hc:bA c)(n:Nat)(hn:(n:Int)=c.roots):
 ∀ w,Holds B H w→Calls Tryz.prog 76 [dV c].toArray w (Ret B (fun rv H'=>∃ bm br,rv=ptr bm∧H'=eF bm br n c::eE br n::H) (fun _ _=>False)):=by
 refine ao func76 aa ntmps76 aa ?_
 have hr2:=hc.r2
 refine ac (ab (kPb (aY aa) aa fun b1=>(kPa aa aa (ad (ac (cR [0,1,2,3,4,5,6] [3,5] [0] [3] [row b1 [i64 c.log,i64 c.roots,i64 c.space] 134] Tryz.mixed (by kernel_rfl) ?_))))))
 refine ak aa aa aa (ah isAgg134 sizeOf134 aa aa) .free aa ?_
 refine aQ aa aa aa (aE (m:=_) f9 aa aa) .free aa (aQ aa aa aa (ai isAgg3 aa aa) .free aa (aT aa aa (kPb (nW (n:=n) runUnderlying141 Cu sizeOf209 zeroValue209 aa (by rw[hn];rfl) (by rw[hn];rfl) (by omega)) aa fun br=>(ad (cN ?_)))))
 refine aQ aa aa aa (aP aa (p9 _ _ _ _ _ (by first | rfl | assumption) rfl)) .free rfl ?_;refine aT aa aa ?_;refine kPb (aY aa) aa fun b8=> ?_;refine ad ?_;refine c7 aa ?_;refine aQ aa aa aa (bu aa) .free aa ?_;refine cx ?_;refine an [2] rfl ?_;refine az ?_
 exact au results76 aa (fun w hw=>⟨_,⟨b8,br,rfl,rfl⟩,(hw.dp [2])⟩)
theorem zj(B:World)(Fr:List HP)(c3:Nat):
 ∀ w,Holds B (row c3 [.slice none 0 0] 141::Fr) w→Calls Tryz.prog 184 [.pointer none,ptr c3].toArray w (a8 B (row c3 [.slice none 0 0] 141::Fr) (.tuple #[])):=by
 refine ao func184 aa ntmps184 aa (ac (ab (kPm aa aa (kPv (dw runUnderlying209 aa aa aa) aa (kPm aa aa ?_)))))
 apply dF (tp:=10) (t:=5) (σ1:=[(5,_),(0,_),(1,_)]) 5 rfl (aC rfl)
 ·intro hg1
  refine al aa (ai isAgg141 aa aa) (.on aa aa (ae hg1)) aa aa (al aa (aj aa) (.on aa aa (ae hg1)) aa aa (ay aa (ar call185 aa) ((False.elim (by cases hg1):∀ w,Holds B (row c3 [.slice none 0 0] 141::Fr) w→Calls Tryz.prog 185 [.slice none 0 0,.pointer none].toArray w (a8 B (row c3 [.slice none 0 0] 141::Fr) (.bool true)))) (.on aa aa (ae hg1)) aa aa ?_))
  refine al aa (bx aa) (.on aa aa (ae hg1)) aa aa (kPv (aw aa hg1 aa) aa ?_)
  exact aV aa (aC aa) (cV hg1)
 ·intro hg1
  refine ap aa (.on aa aa (ag hg1)) aa (ap aa (.on aa aa (ag hg1)) aa (ap aa (.on aa aa (ag hg1)) aa (ap aa (.on aa aa (ag hg1)) aa (kPv (aH aa hg1 aa) aa ?_))))
  exact aV aa (aC aa) (cW hg1)
 refine ad (bJ aa (rfl) (aq ?_))
 exact cS results184 (fun w hw=>⟨rfl,hw⟩)
theorem rC(B:World)(Fr:List HP)(bm br n:Nat)(c:Cfg)(hn:n≤1000):
 ∀ w,Holds B (eF bm br n c::eE br n::Fr) w→Calls Tryz.prog 131 [ptr bm].toArray w (a8 B (eF bm br n c::eE br n::Fr) (.slice none 0 0)):=by
 refine ao func131 aa ntmps131 aa (ac (ab (kPa aa aa (ad (ac (ab (kPb (ck zeroValue141 aa) aa fun b3=>(ad (ac (ab (kPv (du aa aa) aa ?_)))))))))))
 refine kPa aa aa (ad (ac (ac (ab (kPf zX isAgg141 aa aa aa aa (kPv (bB aa runUnderlying141 ⟨_,rfl⟩ rfl) aa (kPm aa aa (ad (aF (cA (ι:=Nat) [17,16,4,3,2,0] (fun k=>(k≤n)) (fun k=>[(18,i64 k)]) (fun k=>row b3 [.slice none 0 0] 141::eF bm br n c::eE br n::Fr) (fun k=>n - k) (0) (Nat.zero_le _) (fun a w st=>st.to ⟨rfl,trivial⟩ (fun hh=>hh)) ?_))))))))))
 rintro k hk0
 try simp only at hk0 ⊢
 refine bY (σ':=[(18,i64 k),(17,_),(16,_),(4,_),(3,_),(2,_),(0,_)]) (aC aa) (ac (ab (kPv (am aa aa aa) aa (ad (ac ?_)))))
 refine aZ aa (fun h19=> ?_) (fun h19=> ?_)
 ·have hk:k<n:=by simpa using h19
  refine aq (ac (aF (ac (ab (kPv (bT runUnderlying141 sizeOf209 aa aa (by omega) (by omega)) aa ?_)))))
  refine kPv (bH (v:= .pointer none) isAgg209 (show SlR B _ (Value.slice (some (⟨br,0,none⟩:Addr)) n n) (List.replicate n (Value.pointer none)) from SlR.row (b:=br) (by simp) (by simp)) aa (by simp[List.getElem?_replicate,hk])) aa ?_
  refine kPa aa aa (ad (ab (kPm aa aa (kPm aa aa ?_))))
  refine ay aa (kF call184 aa aa) (zj B _ b3) .free aa aa ?_
  refine ad (an [18,17,16,4,3,2,0] rfl (ab (kPv (aL aa aa) aa (kPm aa aa (ad ?_)))))
  exact fun a w st_=>⟨k+1,by omega,by omega,st_.to (aC aa) (fun hh=>hh)⟩
 ·skip
  refine bC (ac (ac (ab (kPf ua isAgg141 aa aa aa aa (kPv (bB aa runUnderlying141 ⟨_,rfl⟩ rfl) aa (kPm aa aa (ad (an [31,30,29,4,3,2] rfl (aF (cA (ι:=Nat) [30,29,4,3,2] (fun k2=>(k2≤0)) (fun k2=>[(31,i64 k2)]) (fun k2=>row b3 [.slice none 0 0] 141::eF bm br n c::eE br n::Fr) (fun k2=>0) (0) (Nat.zero_le _) (fun a w st=>st.to ⟨rfl,trivial⟩ (fun hh=>hh)) ?_))))))))))
  rintro k2 hk20
  try simp only at hk20 ⊢
  refine bY (σ':=[(31,i64 k2),(30,_),(29,_),(4,_),(3,_),(2,_)]) (aC aa) (ac (ab (kPv (am aa aa aa) aa (ad (ac (bJ aa ((by simp)) (bC (ac (ac (ab (kPa aa aa ?_)))))))))))
  refine ad (aF (cA (ι:=Nat) [4,3,2] (fun k3=>(k3≤0)) (fun k3=>[(9,i64 k3)]) (fun k3=>row b3 [.slice none 0 0] 141::eF bm br n c::eE br n::Fr) (fun k3=>0) (0) (Nat.zero_le _) (fun a w st=>st.to ⟨rfl,trivial⟩ (fun hh=>hh)) ?_))
  rintro k3 hk30
  try simp only at hk30 ⊢
  refine bY (σ':=[(9,i64 k3),(4,_),(3,_),(2,_)]) (aC aa) (ac (ac (ab (kPm aa aa (kPv (ai isAgg141 aa aa) aa (kPv (bB aa runUnderlying141 ⟨_,rfl⟩ rfl) aa (kPv (am aa aa aa) aa (ad (bJ aa ((by simp)) (bC (ac ?_)))))))))))
  refine ab (kPv (ai isAgg141 aa aa) aa (kPa aa aa (ad (an [2] rfl (az ?_)))))
  exact au results131 aa (fun w hw=>⟨rfl,(hw.dp [0])⟩)
theorem xF(B:World)(Fr:List HP)(bm br n:Nat)(c:Cfg)(hn:n≤1000):
 ∀ w,Holds B (eF bm br n c::eE br n::Fr) w→Calls Tryz.prog 77 [ptr bm].toArray w (a8 B (eF bm br n c::eE br n::Fr) (i64 0)):=by
 refine ao func77 aa ntmps77 aa (ac (ab (kPa aa aa (ad (ac (ab (kPa aa aa (ad (ac (ac (ab ?_)))))))))))
 refine kPm aa aa (ay aa (ar call131 aa) (rC B _ bm br n c hn) .free aa aa ?_)
 refine kPv (bB aa runUnderlying141 ⟨_,rfl⟩ rfl) aa (kPm aa aa (ad (aF (cA (ι:=Nat) [8,7,3,2] (fun k=>(k≤0)) (fun k=>[(9,i64 k)]) (fun k=>eF bm br n c::eE br n::Fr) (fun k=>0) (0) (Nat.zero_le _) (fun a w st=>st.to ⟨rfl,trivial⟩ (fun hh=>hh)) ?_))))
 rintro k hk0
 try simp only at hk0 ⊢
 refine bY (σ':=[(9,i64 k),(8,_),(7,_),(3,_),(2,_)]) (aC aa) (ac (ab (kPv (am aa aa aa) aa (ad (ac (bJ aa ((by simp)) (bC (ac (ab (kPm aa aa (kPa aa aa ?_)))))))))))
 refine ad (az ?_)
 exact au results77 aa (fun w hw=>⟨rfl,hw⟩)
theorem xG(B:World)(Fr:List HP)(bm br n:Nat)(c:Cfg)(hn:n≤1000):
 ∀ w,Holds B (eF bm br n c::eE br n::Fr) w→Calls Tryz.prog 78 [ptr bm].toArray w (a8 B (eF bm br n c::eE br n::Fr) (i64 0)):=by
 refine ao func78 aa ntmps78 aa (ac (ab (kPa aa aa (ad (ac (ab (kPa aa aa (ad (ac (ac (ab ?_)))))))))))
 refine kPf ua isAgg141 aa aa aa aa (kPv (bB aa runUnderlying141 ⟨_,rfl⟩ rfl) aa (kPm aa aa (ad (aF (cA (ι:=Nat) [10,9,3,2] (fun k=>(k≤0)) (fun k=>[(11,i64 k)]) (fun k=>eF bm br n c::eE br n::Fr) (fun k=>0) (0) (Nat.zero_le _) (fun a w st=>st.to ⟨rfl,trivial⟩ (fun hh=>hh)) ?_)))))
 rintro k hk0
 try simp only at hk0 ⊢
 refine bY (σ':=[(11,i64 k),(10,_),(9,_),(3,_),(2,_)]) (aC aa) (ac (ab (kPv (am aa aa aa) aa (ad (ac (bJ aa ((by simp)) (bC (ac (ab (kPm aa aa (kPa aa aa ?_)))))))))))
 refine ad (az ?_)
 exact au results78 aa (fun w hw=>⟨rfl,hw⟩)
theorem Bf(B:World)(Fr:List HP)(bm br n:Nat)(c:Cfg)(hn:n≤1000)(bh:Nat)(h:HpS)(s:Dev)(hW:ef h s)(hst:h.stats s=⟨0,0,0,0,false⟩)(hck:s.check h.c=0):
 ∀ w,Holds B (dC bh h::aB h.bd s::eF bm br n c::eE br n::Fr) w→Calls Tryz.prog 45 [ptr bm,ptr bh].toArray w (a8 B (dC bh h::aB h.bd s::eF bm br n c::eE br n::Fr) (.bool true)):=by
 refine ao func45 aa ntmps45 aa (ac (ab (kPa aa aa (ad (ac (ab (kPm aa aa (ay aa (ar call50 aa) (qH B _ bh h s hW) .free aa aa ?_))))))))
 rw[hst]
 refine kPb (aD zeroValue106 aa) aa fun b5=>(kPs (ax (vs:=_) sizeOf106 aa aa aa aa aa) aa (ad (ac (aN (H':=row b5 [i64 0,i64 0,i64 0,i64 0,.bool false] 106::_) (fun w hh=>hh) (aS [3,3,1,1,0] (cK Tryz.mixed (by kernel_rfl) (by kernel_rfl) ?_))))))
 refine kQv (aE (m:=_) z8 aa aa) aa (kQv (ai isAgg3 aa aa) aa (kQm aa aa (kQv (aK aa) aa (kQv (aE (m:=_) zW aa aa) aa (kQv (ai isAgg3 aa aa) aa (kQv (am aa aa aa) aa (kQm aa aa ?_)))))))
 apply nk (tp:=21) (t:=15) (σ1:=[(15,_),(5,_),(4,_),(0,_),(1,_)]) 6 rfl (aC rfl)
 ·intro hg1
  refine ba aa (aE (m:=_) z7 aa aa) (.on aa aa (ae hg1)) aa (ba aa (ai isAgg3 aa aa) (.on aa aa (ae hg1)) aa (ba aa (aj aa) (.on aa aa (ae hg1)) aa (bG aa (ar call77 aa) (xF B _ bm br n c hn) (.on aa aa (ae hg1)) aa ?_)))
  refine ba aa (am aa aa aa) (.on aa aa (ae hg1)) aa (kQv (aw aa hg1 aa) aa ?_)
  exact eS aa (aC aa) (cV hg1)
 ·intro hg1
  refine aW aa (.on aa aa (ag hg1)) aa (aW aa (.on aa aa (ag hg1)) aa (aW aa (.on aa aa (ag hg1)) aa (aW aa (.on aa aa (ag hg1)) aa (aW aa (.on aa aa (ag hg1)) aa (kQv (aH aa hg1 aa) aa ?_)))))
  exact eS aa (aC aa) (cW hg1)
 refine kQm aa aa ?_
 apply nk (tp:=28) (t:=22) (σ1:=[(22,_),(5,_),(4,_),(0,_),(1,_)]) 6 rfl (aC rfl)
 ·intro hg2
  refine ba aa (aE (m:=_) z6 aa aa) (.on aa aa (ae hg2)) aa (ba aa (ai isAgg3 aa aa) (.on aa aa (ae hg2)) aa (ba aa (aj aa) (.on aa aa (ae hg2)) aa (bG aa (ar call78 aa) (xG B _ bm br n c hn) (.on aa aa (ae hg2)) aa ?_)))
  refine ba aa (am aa aa aa) (.on aa aa (ae hg2)) aa (kQv (aw aa hg2 aa) aa ?_)
  exact eS aa (aC aa) (cV hg2)
 ·intro hg2
  refine aW aa (.on aa aa (ag hg2)) aa (aW aa (.on aa aa (ag hg2)) aa (aW aa (.on aa aa (ag hg2)) aa (aW aa (.on aa aa (ag hg2)) aa (aW aa (.on aa aa (ag hg2)) aa (kQv (aH aa hg2 aa) aa ?_)))))
  exact eS aa (aC aa) (cW hg2)
 refine kQm aa aa ?_
 apply nk (tp:=38) (t:=29) (σ1:=[(29,_),(5,_),(4,_),(0,_),(1,_)]) 9 rfl (aC rfl)
 ·intro hg3
  refine ba aa (aE (m:=_) zZ aa aa) (.on aa aa (ae hg3)) aa (ba aa (ai isAgg3 aa aa) (.on aa aa (ae hg3)) aa (ba aa (aj aa) (.on aa aa (ae hg3)) aa (ba aa (aK aa) (.on aa aa (ae hg3)) aa (ba aa (aE (m:=_) zU aa aa) (.on aa aa (ae hg3)) aa (ba aa (ai isAgg142 aa aa) (.on aa aa (ae hg3)) aa (ba aa (bB aa runUnderlying142 ⟨_,rfl⟩ rfl) (.on aa aa (ae hg3)) aa (ba aa (am aa aa aa) (.on aa aa (ae hg3)) aa (kQv (aw aa hg3 aa) aa ?_))))))))
  exact eS aa (aC aa) (cV hg3)
 ·intro hg3
  refine aW aa (.on aa aa (ag hg3)) aa (aW aa (.on aa aa (ag hg3)) aa (aW aa (.on aa aa (ag hg3)) aa (aW aa (.on aa aa (ag hg3)) aa (aW aa (.on aa aa (ag hg3)) aa (aW aa (.on aa aa (ag hg3)) aa (aW aa (.on aa aa (ag hg3)) aa (aW aa (.on aa aa (ag hg3)) aa (kQv (aH aa hg3 aa) aa ?_))))))))
  exact eS aa (aC aa) (cW hg3)
 refine kQm aa aa ?_
 apply nk (tp:=47) (t:=39) (σ1:=[(39,_),(4,_),(1,_)]) 8 rfl (aC rfl)
 ·intro hg4
  refine ba aa (aE (m:=_) zY aa aa) (.on aa aa (ae hg4)) aa (ba aa (ai isAgg4 aa aa) (.on aa aa (ae hg4)) aa (ba aa (aj aa) (.on aa aa (ae hg4)) aa (ba aa (aK aa) (.on aa aa (ae hg4)) aa (ba aa (aE (m:=_) zV aa aa) (.on aa aa (ae hg4)) aa (ba aa (ai isAgg4 aa aa) (.on aa aa (ae hg4)) aa (ba aa (Ah runUnderlying4 aa aa aa) (.on aa aa (ae hg4)) aa (kQv (aw aa hg4 aa) aa ?_)))))))
  exact eS aa (aC aa) (cV hg4)
 ·intro hg4
  refine aW aa (.on aa aa (ag hg4)) aa (aW aa (.on aa aa (ag hg4)) aa (aW aa (.on aa aa (ag hg4)) aa (aW aa (.on aa aa (ag hg4)) aa (aW aa (.on aa aa (ag hg4)) aa (aW aa (.on aa aa (ag hg4)) aa (aW aa (.on aa aa (ag hg4)) aa (kQv (aH aa hg4 aa) aa ?_)))))))
  exact eS aa (aC aa) (cW hg4)
 refine kQm aa aa ?_
 apply nk (tp:=52) (t:=48) (σ1:=[(48,_),(4,_)]) 4 rfl ⟨rfl,rfl,trivial⟩
 ·intro hg5
  refine ba aa (aj aa) (.on aa aa (ae hg5)) aa (bG aa (ar call79 aa) (A7 [2,2] [2,2] (vc B _ bh h s hW)) (.on aa aa (ae hg5)) aa ?_)
  refine ba aa (am aa aa aa) (.on aa aa (ae hg5)) aa (kQv (aw aa hg5 aa) aa ?_)
  exact eS aa ⟨rfl,rfl,trivial⟩ (cV hg5)
 ·intro hg5
  refine aW aa (.on aa aa (ag hg5)) aa (aW aa (.on aa aa (ag hg5)) aa (aW aa (.on aa aa (ag hg5)) aa (kQv (aH aa hg5 aa) aa ?_)))
  exact eS aa ⟨rfl,rfl,trivial⟩ (cW hg5)
 refine kQa aa aa (cg (az ?_))
 exact au results45 aa (fun w hw=>⟨by rw[hck];rfl,((hw.dp [4]).pk [2,2])⟩)
def osz(m:Int→Int)(k:Int):Int:=(unp (m k)).1+1
def orf(m:Int→Int)(k:Int):Int:=(unp (m k)).2.1
theorem il(m:Int→Int)(k:Int):1≤osz m k∧osz m k≤65∧0≤orf m k∧orf m k+1≤osz m k:=by
 have:=qh (m k);unfold osz orf;omega
def iB(m:Int→Int):Int→List Int→Int→Prop
 | a,[],e=>a=e
 | a,k::t,e=>k=a∧(unp (m a)).2.2=true∧iB m (a+osz m a) t e
theorem iB.le{m:Int→Int}:∀ {L:List Int} {a e:Int},iB m a L e→a≤e
 | [],a,e,h=>Int.le_of_eq h
 | k::t,a,e,h=>by have:=h.2.2.le;have:=il m a;omega
theorem iB.mem{m:Int→Int}:∀ {L:List Int} {a e k:Int},iB m a L e→k∈L→a≤k∧k+osz m k≤e∧(unp (m k)).2.2=true
 | [],_,_,_,_,h=>by cases h
 | x::t,a,e,k,h,hk=>by
   obtain⟨rfl,h2,h3⟩:=h
   have:=il m x
   rcases List.mem_cons.1 hk with rfl | hk
   ·exact⟨Int.le_refl _,h3.le,h2⟩
   ·have:=iB.mem h3 hk;exact⟨by omega,this.2⟩
theorem iB.disj{m:Int→Int}:∀ {L:List Int} {a e k k':Int},iB m a L e→k∈L→k'∈L→k<k'→k+osz m k≤k'
 | [],_,_,_,_,_,h,_,_=>by cases h
 | x::t,a,e,k,k',h,hk,hk',hlt=>by
   obtain⟨rfl,h2,h3⟩:=h
   rcases List.mem_cons.1 hk with e1 | hk2
   ·rcases List.mem_cons.1 hk' with e2 | hk3
    ·omega
    ·subst e1;exact(iB.mem h3 hk3).1
   ·rcases List.mem_cons.1 hk' with e2 | hk3
    ·have:=(iB.mem h3 hk2).1;have:=il m x;omega
    ·exact iB.disj h3 hk2 hk3 hlt
structure pV(c:Cfg)(b:Blk)(m:Int→Int)(L:List Int):Prop where
 tile:iB m (b.place c 0) L (b.place c b.used)
 names:∀ k∈L,∀ i,0≤i→i<orf m k→m (k+1+i)=0∨m (k+1+i)∈L
 roots:∀ w∈b.rts,w=0∨w∈L
inductive Rch (m:Int→Int) (ws:List Int):Int→Prop
 | word {w:Int}:w∈ws→w≠0→Rch m ws w
 | name {k i:Int}:Rch m ws k→0≤i→i<orf m k→m (k+1+i)≠0→Rch m ws (m (k+1+i))
theorem CY{c:Cfg}(hc:bA c){b:Blk}(hb:gi c b){m:Int→Int}{L:List Int}(h:pV c b m L){k:Int}(hk:k∈L):c.frm b.act≤k∧k+osz m k≤c.frm b.act+b.used∧24<k∧k<20000:=by
 have h1:=h.tile.mem hk
 have h2:=hb.act;have h3:=hb.used
 have h4:=iI hc (k:=b.act) (by omega)
 have:=il m k;have:=hc.s1
 have h5:(2 - b.act)*c.space=c.space∨(2 - b.act)*c.space=2*c.space:=by
  rcases (by omega:b.act=0∨b.act=1) with e | e<;>rw[e]
  ·exact .inr (by omega)
  ·exact .inl (by omega)
 unfold Blk.place at h1
 omega
theorem rI{c:Cfg}(hc:bA c){b:Blk}(hb:gi c b){s:Dev}{L:List Int}(h:pV c b s.load L){k:Int}(hk:k∈L):s.objOf c b k=((osz s.load k - 1,orf s.load k,k),0)∧b.has c k=true:=by
 have h1:=h.tile.mem hk
 have h2:=CY hc hb h hk
 have h5:=il s.load k
 have hh:b.has c k=true:=by unfold Blk.has;simp;omega
 refine⟨?_,hh⟩
 unfold Dev.objOf
 rw[if_neg (by rw[hh];simp;omega),if_neg (by rw[h1.2.2];unfold osz at h1;simp;omega)]
 unfold osz orf
 simp
def Dq(m:Int→Int):Int→List (Int×Int)→Int→Prop
 | a,[],e=>a=e
 | a,q::t,e=>q.2=a∧Dq m (a+osz m q.1) t e
def tr(W:List (Int×Int))(w:Int):Int:=(bP W w).getD 0
structure CI(c:Cfg)(b:Blk)(m0:Int→Int)(L:List Int)(lo:Int)(ws:List Int)(S:bF)(m:Int→Int)(p:Int):Prop where
 cc:S.c=c
 bb:S.b=b
 tt:S.to_=lo
 nd:(S.went.map Prod.fst).Nodup
 inL:∀ q∈S.went,q.1∈L
 offs:Dq m0 lo S.went S.free
 out:∀ j,j<lo∨S.free≤j→m j=m0 j
 hd:∀ q∈S.went,m q.2=m0 q.1
 cp:∀ q∈S.went,∀ j,0≤j→j+1<osz m0 q.1→m (q.2+1+j)=if j<orf m0 q.1∧q.2+1+j<p then tr S.went (m0 (q.1+1+j)) else m0 (q.1+1+j)
 dn:∀ q∈S.went,∀ j,0≤j→j<orf m0 q.1→q.2+1+j<p→m0 (q.1+1+j)=0∨m0 (q.1+1+j)∈S.went.map Prod.fst
 rc:∀ q∈S.went,Rch m0 ws q.1
 u:∀ x,0≤m x∧m x<18446744073709551616
section
variable {c:Cfg} {b:Blk} {m0 m:Int→Int} {L ws:List Int} {lo hi p:Int} {S:bF} {J:Dev→Prop} {s:Dev}
end
section
variable {c:Cfg} {b:Blk} {m0 m:Int→Int} {L ws:List Int} {lo hi p:Int} {S:bF} {J:Dev→Prop} {s:Dev}
structure SI(c:Cfg)(b:Blk)(m0:Int→Int)(L:List Int)(lo:Int)(ws:List Int)(S:bF)(s:Dev):Prop where
 ci:CI c b m0 L lo ws S s.load S.scan
 bd:∃ W V,S.went=W++V∧Dq m0 lo W S.scan
 td:∃ pre,ws=pre++S.todo∧∀ w∈pre,w=0∨w∈S.went.map Prod.fst
 dn:S.done=false
def Dur(lo hi:Int)(s:Dev):Prop:=∀ i:Nat,lo≤i→i<hi→s.kept i=s.now i∧s.q (i / 8)=none
structure DI(c:Cfg)(b:Blk)(m0:Int→Int)(L:List Int)(lo:Int)(ws:List Int)(S:bF)(s:Dev):Prop where
 ci:CI c b m0 L lo ws S s.load S.free
 ws:∀ w∈ws,w=0∨w∈S.went.map Prod.fst
 dur:Dur lo S.free s
end
theorem zd:((List.range 65).all fun w=>(List.range (w+1)).all fun r=>unp (eA w r)==((w:Int),(r:Int),true))=true:=by kernel_rfl
theorem sy{w r:Int}(h:0≤r∧r≤w∧w≤64):unp (eA w r)=(w,r,true):=by
 have h1:=zd
 rw[List.all_eq_true] at h1
 have h2:=h1 w.toNat (List.mem_range.2 (by omega))
 rw[List.all_eq_true] at h2
 have h3:=h2 r.toNat (List.mem_range.2 (by omega))
 rw[beq_iff_eq,Int.toNat_of_nonneg (by omega),Int.toNat_of_nonneg (by omega)] at h3
 exact h3
theorem iB.congr{m m':Int→Int}:∀ {L:List Int} {a e:Int},iB m a L e→(∀ k∈L,m' k=m k)→iB m' a L e
 | [],_,_,h,_=>h
 | x::t,a,e,h,hm=>by
   obtain⟨rfl,h2,h3⟩:=h
   have e1:=hm x (List.mem_cons_self ..)
   refine⟨rfl,by rw[e1];exact h2,?_⟩
   rw[show osz m' x=osz m x by unfold osz;rw[e1]]
   exact h3.congr fun k hk=>hm k (List.mem_cons_of_mem _ hk)
theorem iB.snoc{m:Int→Int}:∀ {L:List Int} {a e:Int},iB m a L e→(unp (m e)).2.2=true→iB m a (L++[e]) (e+osz m e)
 | [],a,e,h,h1=>by cases h;exact⟨rfl,h1,rfl⟩
 | x::t,a,e,h,h1=>⟨h.1,h.2.1,h.2.2.snoc h1⟩
structure HL(c:Cfg)(N:Nat)(k0:Nat→Int)(s:Dev):Prop where
 u:U64 s
 lim:s.pow.lim<0
 n:s.n=N
 kept:s.kept=k0
 q:s.q=fun _=>none
 low:∀ x:Nat,(x:Int)<c.active→s.now x=k0 x
structure Fi(c:Cfg)(N:Nat)(k0:Nat→Int)(s:Dev)(out:List Int)(u:Int):Prop where
 h:HL c N k0 s
 act:s.load c.active=0
 used:s.load (c.active+1)=u
 u0:0≤u∧u≤c.space
 tile:iB s.load (c.frm 0) out (c.frm 0+u)
 names:∀ k∈out,∀ i,0≤i→i<orf s.load k→s.load (k+1+i)=0∨s.load (k+1+i)∈out
 roots:∀ i:Nat,(i:Int)<c.roots→s.load (c.root i)=0∨s.load (c.root i)∈out
theorem D9{c:Cfg}(hc:bA c){N:Nat}(hN:(N:Int)=c.words):c.frm 0+c.space≤N∧c.active+2+c.roots≤c.frm 0∧24<c.active∧c.frm 0+c.space≤20000:=by
 have hfb:=iI hc (k:=0) (by omega)
 have h1:=hc.act
 have:=hc.s1;have:=hc.r1;have:=hc.l1
 omega
theorem C4{c:Cfg}(hc:bA c){N:Nat}(hN:(N:Int)=c.words){s:Dev}(h:Fmt c N s)(hu:U64 s):Fi c N s.kept s [] 0:=by
 have hf0:=D9 hc hN
 have hr:=hc.r1
 have hs:=hc.s1
 have hb:∀ x:Int,c.active≤x→x<c.root c.roots→s.load x=0:=fun x h1 h2=>by
  simp only[Cfg.root] at h2
  unfold Dev.load
  split
  ·exact h.st.block x.toNat (by omega) (by simp only[Cfg.root];omega)
  ·rfl
 refine⟨⟨hu,h.lim,h.n,rfl,h.calm.q,fun x _=>by rw[h.calm.kept]⟩,hb _ (by omega) (by simp only[Cfg.root];omega),hb _ (by omega) (by simp only[Cfg.root];omega),by omega,by show c.frm 0=c.frm 0+0;omega,fun _ h=>(by cases h),fun i hi=> .inl (hb _ (by simp only[Cfg.root];omega) (by simp only[Cfg.root];omega))⟩
structure kN(s:Dev):Prop where
 lim:s.pow.lim<0
 q:s.q=fun _=>none
theorem DJ{s:Dev}{i:Nat}(hq:s.q=fun _=>none):(s.up.fl i).up.fe.now=s.now∧(s.up.fl i).up.fe.q=(fun _=>none)∧(s.up.fl i).up.fe.n=s.n∧∀ x,(s.up.fl i).up.fe.kept x=if x / 8=i / 8 then s.now x else s.kept x:=by
 refine⟨rfl,rfl,rfl,fun x=> ?_⟩
 have h:=oT s i x
 rw[show s.pk x=s.kept x by simp only[Dev.pk,eK,hq]] at h
 exact h
@[irreducible] def Dev.sv (s:Dev) (i:Nat) (v:Int):Dev:=s.up.st i v
@[irreducible] def Dev.ff (s:Dev) (i:Nat):Dev:=(s.up.fl i).up.fe
theorem kO{α:Type}{s:Dev}{i v:Int}{k:Int→Dev→Out α}(h:s.pow.lim<0)(hi:0≤i∧i<s.n):(s.store i v).then k=k 0 (s.sv i.toNat v):=by rw[lT h hi,aR];unfold Dev.sv;rfl
theorem rP{α:Type}{s:Dev}{i:Int}{k:Unit→Dev→Out α}(h:s.pow.lim<0)(hi:0≤i∧i<s.n):((s.flush i).then fun _ s=>s.fence.then k)=k () (s.ff i.toNat):=by rw[pA h hi,aR,me (s:=s.up.fl i.toNat) h,aR];unfold Dev.ff;rfl
theorem gv(s:Dev)(i:Nat)(v:Int):(s.sv i v).pow.lim=s.pow.lim:=by unfold Dev.sv;rfl
theorem lS(s:Dev)(i:Nat)(v:Int):(s.sv i v).n=s.n:=by unfold Dev.sv;rfl
theorem xk(s:Dev)(i:Nat)(v:Int):(s.sv i v).q=s.q:=by unfold Dev.sv;rfl
theorem ei(s:Dev)(i:Nat)(v:Int):(s.sv i v).now=upd s.now i v:=by unfold Dev.sv;rfl
theorem kP(s:Dev)(i:Nat)(v:Int):(s.sv i v).kept=s.kept:=by unfold Dev.sv;rfl
theorem rR(s:Dev)(i:Nat):(s.ff i).pow.lim=s.pow.lim:=by unfold Dev.ff;rfl
theorem BB(s:Dev)(i:Nat):(s.ff i).n=s.n:=by unfold Dev.ff;rfl
theorem C5(s:Dev)(i:Nat):(s.ff i).q=fun _=>none:=by unfold Dev.ff;rfl
theorem rQ(s:Dev)(i:Nat):(s.ff i).now=s.now:=by unfold Dev.ff;rfl
theorem rS{s:Dev}{i:Nat}(hq:s.q=fun _=>none)(x:Nat):(s.ff i).kept x=if x / 8=i / 8 then s.now x else s.kept x:=by unfold Dev.ff;exact(DJ hq).2.2.2 x
theorem yq{L:bR}{s:Dev}{i:Int}(hL:dG L)(hs:kN s)(hi:0≤i∧i<s.n)(hc:L.c.active≤s.n)(hn:L.n<L.c.log){r:Nat}(hr:(r:Int)=L.c.record L.n):
 ∃ s',L.append s i= .ok (0,{L with n:=L.n+1}) s'∧kN s'∧s'.n=s.n∧s'.now=upd (upd (upd s.now (r+1) i) (r+2) (upd s.now (r+1) i i.toNat)) r (gw L.epoch L.n)∧∀ x,s'.kept x=if x / 8=r / 8 then s'.now x else s.kept x:=by
 have hact:=hL.c.act
 have h0:=hL.n1
 have hr':(r:Int)=16+4*L.n:=hr
 have b0:0≤L.c.record L.n∧L.c.record L.n+3<s.n:=by rw[←hr];omega
 have e0:(L.c.record L.n).toNat=r:=by omega
 have e1:(L.c.record L.n+1).toNat=r+1:=by omega
 have e2:(L.c.record L.n+2).toNat=r+2:=by omega
 have hl:=hs.lim
 have hld:∀ v,(s.sv (r+1) v).load i=upd s.now (r+1) v i.toNat:=fun v=>by
  have:(s.sv (r+1) v).has i=true:=by simp[Dev.has,hi,lS]
  simp only[Dev.load,this,if_true,ei]
 unfold bR.append
 rw[if_neg (by omega),if_neg (by omega)]
 rw[kO hl (by omega),e1,hld]
 rw[kO (by rw[gv];exact hl) (by rw[lS];omega),e2]
 rw[rP (by rw[gv,gv];exact hl) (by rw[lS,lS];omega),e0]
 rw[kO (by rw[rR,gv,gv];exact hl) (by rw[BB,lS,lS];omega),e0]
 rw[rP (by rw[gv,rR,gv,gv];exact hl) (by rw[lS,BB,lS,lS];omega),e0]
 refine⟨_,rfl,⟨by simp only[rR,gv];exact hl,by rw[C5]⟩,by simp only[BB,lS],by simp only[rQ,ei],fun x=> ?_⟩
 rw[rS (by rw[xk,C5]),rQ,kP,rS (by rw[xk,xk,hs.q]),kP,kP]
 split<;>rfl
@[irreducible] def Dev.fq (s:Dev) (i:Nat):Dev:=s.up.fl i
@[irreducible] def Dev.fn (s:Dev):Dev:=s.up.fe
theorem Bv{α:Type}{s:Dev}{i:Int}{k:Int→Dev→Out α}(h:s.pow.lim<0)(hi:0≤i∧i<s.n):(s.flush i).then k=k 0 (s.fq i.toNat):=by rw[pA h hi,aR];unfold Dev.fq;rfl
theorem Bw{α:Type}{s:Dev}{k:Unit→Dev→Out α}(h:s.pow.lim<0):s.fence.then k=k () s.fn:=by rw[me h,aR];unfold Dev.fn;rfl
theorem C2(s:Dev)(i:Nat):(s.fq i).pow.lim=s.pow.lim:=by unfold Dev.fq;rfl
theorem DF(s:Dev)(i:Nat):(s.fq i).n=s.n:=by unfold Dev.fq;rfl
theorem zK(s:Dev)(i:Nat):(s.fq i).now=s.now:=by unfold Dev.fq;rfl
theorem DE(s:Dev)(i x:Nat):(s.fq i).pk x=if x / 8=i / 8 then s.now x else s.pk x:=by unfold Dev.fq;exact oT s i x
theorem C3(s:Dev):s.fn.pow.lim=s.pow.lim:=by unfold Dev.fn;rfl
theorem DG(s:Dev):s.fn.n=s.n:=by unfold Dev.fn;rfl
theorem zM(s:Dev):s.fn.now=s.now:=by unfold Dev.fn;rfl
theorem Ea(s:Dev):s.fn.q=fun _=>none:=by unfold Dev.fn;rfl
theorem Bx(s:Dev)(x:Nat):s.fn.kept x=s.pk x:=by unfold Dev.fn;rfl
theorem yL{s:Dev}(h:s.q=fun _=>none)(x:Nat):s.pk x=s.kept x:=by simp only[Dev.pk,eK,h]
theorem km{s:Dev}{i:Int}{k:Nat}(h:(k:Int)=i)(hk:k<s.n):s.load i=s.now k:=by
 subst h
 have:s.has (k:Int)=true:=by simp[Dev.has,hk]
 simp only[Dev.load,this,if_true,Int.toNat_natCast]
theorem yG{L:bR}{s:Dev}(hl:s.pow.lim<0)(hn:16≤s.n)(h0:L.n≠0):L.truncate s= .ok {L with epoch:=(L.epoch+1)%4294967296,n:=0} ((s.sv 8 ((L.epoch+1)%4294967296)).ff 8):=by
 unfold bR.truncate
 rw[if_neg h0,kO hl (by omega)]
 rw[rP (by rw[gv];exact hl) (by rw[lS];omega)]
 rfl
theorem nu:∀ (ks:List Int) (s:Dev),s.pow.lim<0→(∀ k∈ks,0≤k∧k*8<s.n)→
 ∃ s',dz ks s= .ok () s'∧s'.pow.lim<0∧s'.n=s.n∧s'.now=s.now∧∀ x,s'.pk x=if ((x / 8:Nat):Int)∈ks then s.now x else s.pk x
 | [],s,hl,_=>⟨s,rfl,hl,rfl,rfl,fun x=>by rw[if_neg (by simp)]⟩
 | k::ks,s,hl,hk=>by
   obtain⟨k1,k2⟩:=hk k (by simp)
   have e:dz (k::ks) s=dz ks (s.fq (k*8).toNat):=by
    simp only[dz]
    rw[Bv hl (by omega)]
   rw[e]
   obtain⟨s',e1,e2,e3,e4,e5⟩:=nu ks (s.fq (k*8).toNat) (by rw[C2];exact hl) (fun j hj=>by rw[DF];exact hk j (by simp[hj]))
   refine⟨s',e1,e2,by rw[e3,DF],by rw[e4,zK],fun x=> ?_⟩
   rw[e5,zK,DE]
   by_cases h1:((x / 8:Nat):Int)∈ks
   ·rw[if_pos h1,if_pos (List.mem_cons_of_mem _ h1)]
   ·rw[if_neg h1]
    by_cases h2:x / 8=(k*8).toNat / 8
    ·rw[if_pos h2,if_pos]
     have:((x / 8:Nat):Int)=k:=by omega
     rw[this];exact List.mem_cons_self
    ·rw[if_neg h2,if_neg]
     have:((x / 8:Nat):Int)≠k:=by omega
     exact fun h=>(List.mem_cons.1 h).elim this h1
def bR.shut(L:bR):bR:=if L.n=0 then L else {L with epoch:=(L.epoch+1)%4294967296,n:=0}
def bR.shutNow(L:bR)(f:Nat→Int):Nat→Int:=if L.n=0 then f else upd f 8 ((L.epoch+1)%4294967296)
theorem na{L:bR}{s:Dev}(hs:kN s)(hn:16≤s.n):∃ s',L.truncate s= .ok L.shut s'∧kN s'∧s'.n=s.n∧s'.now=L.shutNow s.now∧(s.kept=s.now→s'.kept=s'.now):=by
 by_cases h0:L.n=0
 ·refine⟨s,?_,hs,rfl,?_,fun h=>h⟩
  ·unfold bR.truncate bR.shut;rw[if_pos h0,if_pos h0]
  ·unfold bR.shutNow;rw[if_pos h0]
 ·refine⟨_,yG hs.lim hn h0 |>.trans (by unfold bR.shut;rw[if_neg h0]),⟨by rw[rR,gv];exact hs.lim,C5 _ _⟩,by rw[BB,lS],by unfold bR.shutNow;rw[if_neg h0,rQ,ei],fun hk=>funext fun x=> ?_⟩
  rw[rS (by rw[xk,hs.q]),rQ,ei,kP]
  by_cases c:x / 8=8 / 8
  ·rw[if_pos c]
  ·rw[if_neg c,hk];simp only[upd];rw[if_neg (by omega)]
theorem r6{S:bE}{s:Dev}(hs:kN s)(hn:16≤s.n)(hd:∀ k∈S.dirty.map Prod.fst,0≤k∧k*8<s.n):
 ∃ s',S.commit s= .ok {S with L:=S.L.shut} s'∧kN s'∧s'.n=s.n∧s'.now=S.L.shutNow s.now∧((∀ x,((x / 8:Nat):Int)∉S.dirty.map Prod.fst→s.kept x=s.now x)→s'.kept=s'.now):=by
 have hmem:∀ k,k∈cj (S.dirty.map Prod.fst)↔k∈S.dirty.map Prod.fst:=fun k=>List.mem_mergeSort
 obtain⟨s1,e1,e2,e3,e4,e5⟩:=nu (cj (S.dirty.map Prod.fst)) s hs.lim (fun k h=>hd k ((hmem k).1 h))
 have hpk:(∀ x,((x / 8:Nat):Int)∉S.dirty.map Prod.fst→s.kept x=s.now x)→∀ x,s1.pk x=s.now x:=fun hk x=>by
  rw[e5]
  by_cases c:((x / 8:Nat):Int)∈S.dirty.map Prod.fst
  ·rw[if_pos ((hmem _).2 c)]
  ·rw[if_neg (fun h=>c ((hmem _).1 h)),yL hs.q,hk x c]
 unfold bE.commit
 rw[e1,aR]
 by_cases c:0<S.dirty.length
 ·rw[if_pos c,Bw e2]
  obtain⟨s',f1,f2,f4,f5,f6⟩:=na (L:=S.L) (s:=s1.fn) ⟨by rw[C3];exact e2,Ea _⟩ (by rw[DG,e3];exact hn)
  exact⟨s',by rw[f1,aR],f2,by rw[f4,DG,e3],by rw[f5,zM,e4],fun hk=>f6 (funext fun x=>by rw[Bx,zM,hpk hk,e4])⟩
 ·have hd0:S.dirty=[]:=List.length_eq_zero_iff.1 (by omega)
  have hs1:s1=s:=by
   rw[hd0] at e1
   simp[cj,dz] at e1
   exact e1.symm
  subst hs1
  rw[if_neg c,aR]
  obtain⟨s',f1,f2,f4,f5,f6⟩:=na (L:=S.L) (s:=s1) hs hn
  exact⟨s',by rw[f1,aR],f2,f4,f5,fun hk=>f6 (funext fun x=>hk x (by rw[hd0];simp))⟩
def uD(L:bR)(s:Dev):Prop:=s.now 8=L.epoch∧s.now 16≠gw L.epoch 0
structure In(kp:Prop)(c:Cfg)(N:Nat)(old:Nat→Int)(js:List Nat)(S:bE)(s:Dev):Prop where
 still:kN s
 n:s.n=N
 hN:(N:Int)=c.words
 hc:S.L.c=c
 logw:dG S.L
 ln:S.L.n=js.length
 seen:∀ i:Int,(bP S.seen i).isSome=true↔∃ j∈js,(j:Int)=i
 recs:∀ k (h:k<js.length),s.now (16+4*k+1)=js[k]∧s.now (16+4*k+2)=old js[k]∧c.active≤js[k]∧js[k]<N
 same:∀ x,x∉js→c.active≤x→¬(S.ff≤x∧(x:Int)<S.ft)→s.now x=old x
 keep:kp→∀ x,((x / 8:Nat):Int)∉S.dirty.map Prod.fst→s.kept x=s.now x
 dirty:∀ k∈S.dirty.map Prod.fst,c.active≤k*8∧k*8<N
 nd:(S.dirty.map Prod.fst).Nodup
 out:∀ j∈js,(j:Int)<S.ff∨S.ft≤j
 jnd:js.Nodup
 ep:s.now 8=S.L.epoch
 st:(js=[]∧s.now 16≠gw S.L.epoch 0)∨(js≠[]∧s.now 16=gw S.L.epoch 0)
theorem zx{kp:Prop}{c:Cfg}{N:Nat}{S:bE}{s:Dev}{f t:Int}(hs:kN s)(hk:kp→s.kept=s.now)(hn:s.n=N)(hN:(N:Int)=c.words)(hc:S.L.c=c)(hL:dG S.L)(h0:S.L.n=0)(h1:uD S.L s):In kp c N s.now [] {S with ff:=f,ft:=t,seen:=[],dirty:=[]} s:=
 ⟨hs,hn,hN,hc,hL,h0,fun i=>by simp[bP],fun k h=>absurd h (Nat.not_lt_zero _),fun _ _ _ _=>rfl,fun h x _=>by rw[hk h],fun k h=>by simp at h,by simp,fun j h=>by simp at h,by simp,h1.1,.inl ⟨rfl,h1.2⟩⟩
theorem uN{L:bR}{f:Nat→Int}{s:Dev}(hL:dG L)(he:f 8=L.epoch)(hs:(L.n=0∧f 16≠gw L.epoch 0)∨(L.n≠0∧f 16=gw L.epoch 0))(hn:s.now=L.shutNow f):uD L.shut s:=by
 have e1:=hL.e1
 have e2:=hL.e2
 unfold uD
 rw[hn]
 unfold bR.shutNow bR.shut
 by_cases h0:L.n=0
 ·rw[if_pos h0,if_pos h0]
  rcases hs with ⟨_,h⟩ | ⟨h,_⟩
  ·exact⟨he,h⟩
  ·exact absurd h0 h
 ·rw[if_neg h0,if_neg h0]
  rcases hs with ⟨h,_⟩ | ⟨_,h⟩
  ·exact absurd h h0
  ·refine⟨by simp only[upd,if_true],?_⟩
   simp only[upd]
   rw[if_neg (by decide),h]
   simp only[gw]
   omega
theorem xR{kp:Prop}{c:Cfg}{N:Nat}{old:Nat→Int}{js:List Nat}{S:bE}{s:Dev}(h:In kp c N old js S s)(hc:bA c):
 ∃ s',S.commit s= .ok {S with L:=S.L.shut} s'∧kN s'∧s'.n=N∧s'.now=S.L.shutNow s.now∧(kp→AO s')∧uD S.L.shut s':=by
 have hw:=words_b hc
 have hact:=hc.act
 have:=h.hN
 have:=hc.r1
 have:=hc.l1
 obtain⟨s',e1,e2,e4,e5,e6⟩:=r6 (S:=S) h.still (by rw[h.n];omega) (fun k hk=>by have:=h.dirty k hk;rw[h.n];omega)
 refine⟨s',e1,e2,by rw[e4,h.n],e5,fun hk=>⟨e6 (h.keep hk),e2.q⟩,uN h.logw h.ep ?_ e5⟩
 rcases h.st with ⟨h1,h2⟩ | ⟨h1,h2⟩
 ·exact .inl ⟨by rw[h.ln,h1];rfl,h2⟩
 ·exact .inr ⟨by rw[h.ln];have:=List.length_pos_iff.2 h1;omega,h2⟩
theorem ic{α:Type}{k k':Int}{a:α}:∀ {l:List (Int×α)},k'∈(mset l k a).map Prod.fst↔k'=k∨k'∈l.map Prod.fst
 | []=>by simp[mset]
 | p::l=>by
   simp only[mset]
   split
   ·rename_i h
    simp only[List.map_cons,List.mem_cons,h]
    constructor
    ·rintro(h1 | h1)
     ·exact .inl h1
     ·exact .inr (.inr h1)
    ·rintro(h1 | h1 | h1)
     ·exact .inl h1
     ·exact .inl h1
     ·exact .inr h1
   ·simp only[List.map_cons,List.mem_cons,ic (l:=l)]
    constructor
    ·rintro(h1 | h1 | h1)
     ·exact .inr (.inl h1)
     ·exact .inl h1
     ·exact .inr (.inr h1)
    ·rintro(h1 | h1 | h1)
     ·exact .inr (.inl h1)
     ·exact .inl h1
     ·exact .inr (.inr h1)
theorem kh{α:Type}{k:Int}{a:α}:∀ {l:List (Int×α)},(l.map Prod.fst).Nodup→((mset l k a).map Prod.fst).Nodup
 | [],_=>by simp[mset]
 | p::l,h=>by
   rw[List.map_cons,List.nodup_cons] at h
   simp only[mset]
   split
   ·rename_i e;subst e;rw[List.map_cons,List.nodup_cons];exact h
   ·rename_i e
    rw[List.map_cons,List.nodup_cons]
    refine⟨fun hm=> ?_,kh h.2⟩
    rcases ic.1 hm with h1 | h1
    ·exact e h1
    ·exact h.1 h1
theorem zA{kp:Prop}{c:Cfg}{N:Nat}{old:Nat→Int}{js:List Nat}{S:bE}{s:Dev}(h:In kp c N old js S s)(hc:bA c){i:Nat}(v:Int)(hi:c.active≤i∧i<N)(hno:i∈js∨(S.ff≤i∧(i:Int)<S.ft)):
 S.store s i v= .ok (0,{S with dirty:=mset S.dirty ((i:Int) / 8) ()}) (s.sv i v)∧In kp c N old js {S with dirty:=mset S.dirty ((i:Int) / 8) ()} (s.sv i v):=by
 have hact:=hc.act
 have hn:=h.n
 refine⟨?_,⟨⟨by rw[gv];exact h.still.lim,by rw[xk];exact h.still.q⟩,by rw[lS,hn],h.hN,h.hc,h.logw,h.ln,h.seen,fun k hk=> ?_,fun x hx hx1 hx2=> ?_,fun hkp x hx=> ?_,fun k hk=> ?_,kh h.nd,h.out,h.jnd,?_,?_⟩⟩
 ·rw[jA (by rw[h.hc];omega),kO h.still.lim (by omega)]
  ·rfl
  ·rintro⟨q1,q2⟩
   rcases hno with h1 | h1
   ·rw[(h.seen i).2 ⟨i,h1,rfl⟩] at q1;cases q1
   ·omega
 ·obtain⟨r1,r2,r3,r4⟩:=h.recs k hk
  have hkl:(k:Int)<c.log:=by
   have:=h.logw.n2
   rw[h.hc,h.ln] at this;omega
  rw[ei]
  simp only[upd]
  rw[if_neg (by omega),if_neg (by omega)]
  exact⟨r1,r2,r3,r4⟩
 ·rw[ei]
  simp only[upd]
  rw[if_neg]
  ·exact h.same x hx hx1 hx2
  ·intro e;subst e
   rcases hno with h1 | h1
   ·exact hx h1
   ·exact hx2 h1
 ·rw[ic] at hx
  rw[ei,kP]
  simp only[upd]
  rw[if_neg (by intro e;subst e;exact hx (.inl (by omega)))]
  exact h.keep hkp x fun hd=>hx (.inr hd)
 ·rcases ic.1 hk with e | e
  ·subst e;omega
  ·exact h.dirty k e
 ·have:=hc.l1;have:=hc.r1
  rw[ei];simp only[upd];rw[if_neg (by omega)];exact h.ep
 ·have:=hc.l1;have:=hc.r1
  rw[ei];simp only[upd];rw[if_neg (by omega)];exact h.st
theorem zw{kp:Prop}{c:Cfg}{N:Nat}{old:Nat→Int}{js:List Nat}{S:bE}{s:Dev}(h:In kp c N old js S s)(hc:bA c){i:Nat}(v:Int)(hi:c.active≤i∧i<N)(hno:i∉js)(hf:¬(S.ff≤i∧(i:Int)<S.ft))(hroom:(js.length:Int)<c.log):
 ∃ s',S.store s i v= .ok (0,{S with L:={S.L with n:=S.L.n+1},seen:=mset S.seen i (),dirty:=mset S.dirty ((i:Int) / 8) ()}) s'∧In kp c N old (js++[i]) {S with L:={S.L with n:=S.L.n+1},seen:=mset S.seen i (),dirty:=mset S.dirty ((i:Int) / 8) ()} s'∧s'.now i=v∧∀ x:Nat,c.active≤x→x≠i→s'.now x=s.now x:=by
 have hact:=hc.act
 have hn:=h.n
 have hln:=h.ln
 have hcc:=h.hc
 have hN:=h.hN
 have hlt:=hi
 obtain⟨s1,e1,e2,e3,e4,e5⟩:=yq (L:=S.L) (s:=s) (i:=i) (r:=16+4*js.length) h.logw h.still (by omega) (by rw[hcc];omega) (by rw[hcc];omega) (by rw[hln];simp only[Cfg.record];omega)
 have hns:(bP S.seen i).isSome=false:=by
  cases hm:(bP S.seen (i:Int)).isSome with
  | false=>rfl
  | true=>obtain⟨j,hj,e⟩:=(h.seen i).1 hm;exact absurd (by rwa [show j=i by omega] at hj) hno
 have hnow:∀ x,x≠16+4*js.length→x≠16+4*js.length+1→x≠16+4*js.length+2→s1.now x=s.now x:=fun x h1 h2 h3=>by
  rw[e4];simp only[upd];rw[if_neg h1,if_neg h3,if_neg h2]
 refine⟨s1.sv i v,?_,⟨⟨by rw[gv];exact e2.lim,by rw[xk];exact e2.q⟩,by rw[lS,e3,hn],hN,hcc,⟨h.logw.c,h.logw.e1,h.logw.e2,?_,?_⟩,?_,fun x=> ?_,fun k hk=> ?_,fun x hx hx1 hx2=> ?_,fun hkp x hx=> ?_,fun k hk=> ?_,kh h.nd,fun j hj=> ?_,List.nodup_append.2 ⟨h.jnd,by simp,fun a ha b hb=>by simp at hb;subst hb;rintro rfl;exact hno ha⟩,?_,.inr ⟨by simp,?_⟩⟩,?_,fun x hx hx1=> ?_⟩
 ·unfold bE.store
  rw[if_neg (by rw[hcc];omega),if_pos ⟨hns,by omega⟩,e1,aR]
  simp only[ne_eq,not_true_eq_false,if_false]
  rw[kO e2.lim (by rw[e3];omega)]
  rfl
 ·show 0≤S.L.n+1
  omega
 ·show S.L.n+1≤S.L.c.log
  rw[hcc];omega
 ·show S.L.n+1=_
  rw[List.length_append,hln];simp
 ·rw[ja]
  by_cases c1:x=i
  ·rw[if_pos c1];simp[c1]
  ·rw[if_neg c1,h.seen x]
   constructor
   ·rintro⟨j,hj,e⟩;exact⟨j,List.mem_append_left _ hj,e⟩
   ·rintro⟨j,hj,e⟩
    rcases List.mem_append.1 hj with h1 | h1
    ·exact⟨j,h1,e⟩
    ·have:j=i:=by simpa using h1
     subst this;exact absurd e.symm c1
 ·rw[ei]
  simp only[upd]
  rw[List.length_append,List.length_singleton] at hk
  rw[if_neg (by omega),if_neg (by omega)]
  by_cases c1:k<js.length
  ·obtain⟨r1,r2,r3,r4⟩:=h.recs k c1
   rw[hnow _ (by omega) (by omega) (by omega),hnow _ (by omega) (by omega) (by omega)]
   simp only[List.getElem_append_left c1]
   exact⟨r1,r2,r3,r4⟩
  ·have:k=js.length:=by omega
   subst this
   simp only[List.getElem_concat_length]
   refine⟨?_,?_,hi.1,hi.2⟩
   ·rw[e4];simp only[upd];rw[if_neg (by omega),if_neg (by omega)];simp only[if_true]
   ·rw[e4];simp only[upd,Int.toNat_natCast];rw[if_neg (by omega)];simp only[if_true];rw[if_neg (by omega)]
    exact h.same i hno hi.1 hf
 ·have h1:x∉js:=fun hh=>hx (List.mem_append_left _ hh)
  have h2:x≠i:=fun e=>hx (by simp[e])
  rw[ei];simp only[upd]
  rw[if_neg h2,hnow _ (by omega) (by omega) (by omega)]
  exact h.same x h1 hx1 hx2
 ·rw[ic] at hx
  rw[ei,kP]
  simp only[upd]
  rw[if_neg (by intro e;subst e;exact hx (.inl (by omega))),e5]
  by_cases c1:x / 8=(16+4*js.length) / 8
  ·rw[if_pos c1]
  ·rw[if_neg c1,hnow _ (by omega) (by omega) (by omega)]
   exact h.keep hkp x fun hd=>hx (.inr hd)
 ·rcases ic.1 hk with e | e
  ·subst e;omega
  ·exact h.dirty k e
 ·rcases List.mem_append.1 hj with h1 | h1
  ·exact h.out j h1
  ·have:j=i:=by simpa using h1
   subst this
   show(j:Int)<S.ff∨S.ft≤j
   omega
 ·have:=hc.l1;have:=hc.r1
  rw[ei];simp only[upd];rw[if_neg (by omega),hnow _ (by omega) (by omega) (by omega)];exact h.ep
 ·have:=hc.l1;have:=hc.r1
  rw[ei];simp only[upd];rw[if_neg (by omega)]
  rcases h.st with ⟨h1,_⟩ | ⟨h1,h2⟩
  ·rw[e4,hln,h1];simp only[upd,List.length_nil];rfl
  ·have:=List.length_pos_iff.2 h1
   rw[hnow _ (by omega) (by omega) (by omega)];exact h2
 ·rw[ei];simp only[upd,if_pos]
 ·rw[ei];simp only[upd];rw[if_neg hx1,hnow _ (by omega) (by omega) (by omega)]
theorem jr{c:Cfg}(hc:bA c):24≤c.active∧c.active<c.words∧c.words≤20000:=by
 have h1:=hc.act
 have h2:=words_b hc
 have:=hc.r1
 have:=hc.l1
 have h3:=fX (n:=c.root c.roots) (by simp only[Cfg.root];omega)
 have h4:=fX (n:=c.space) (by have:=hc.s1;omega)
 have:=hc.s1
 refine⟨by omega,?_,by omega⟩
 simp only[Cfg.words,Cfg.frm,Cfg.root] at*
 omega
theorem CB{L:bR}(h:dG L):dG L.shut∧L.shut.n=0∧L.shut.c=L.c∧L.shut.d=L.d:=by
 have:=h.c.l1
 have:=h.c.r1
 unfold bR.shut
 by_cases c:L.n=0
 ·rw[if_pos c];exact⟨h,c,rfl,rfl⟩
 ·rw[if_neg c]
  exact⟨⟨h.c,by show 0≤(L.epoch+1)%4294967296;omega,by show(L.epoch+1)%4294967296<4294967296;omega,show(0:Int)≤0 by decide,by show(0:Int)≤L.c.log;omega⟩,rfl,rfl,rfl⟩
theorem oy{L:bR}{f:Nat→Int}{x:Nat}(hx:x≠8):L.shutNow f x=f x:=by
 unfold bR.shutNow;split
 ·rfl
 ·simp only[upd];rw[if_neg hx]
theorem wD{kp:Prop}{c:Cfg}{N:Nat}{old:Nat→Int}{js:List Nat}{S:bE}{s:Dev}(h:In kp c N old js S s)(hc:bA c)(hN:N≤1000000):lK S:=⟨h.logw,fun p hp=>by
 have:=h.dirty p.1 (List.mem_map_of_mem hp)
 have:=hc.act
 have:=hc.r1
 have:=hc.l1
 omega⟩
theorem x6{kp:Prop}{c:Cfg}{N:Nat}{old:Nat→Int}{js:List Nat}{S:bE}{s:Dev}(h:In kp c N old js S s)(hc:bA c)(hN:N≤1000000):S.dirty.length≤1000000:=by
 have hact:=hc.act
 have:=hc.r1
 have:=hc.l1
 have h1:=tv (d:=S.dirty.map Prod.fst) (l:=(List.range 1000000).map fun (i:Nat)=>(i:Int)) h.nd fun x hx=>by
  have:=h.dirty x hx
  exact List.mem_map.2 ⟨x.toNat,List.mem_range.2 (by omega),by omega⟩
 simpa using h1
structure SK(c:Cfg)(N bd:Nat)(S:bE)(s:Dev):Prop where
 still:kN s
 u:U64 s
 n:s.n=N
 hN:(N:Int)=c.words
 lc:S.L.c=c
 lw:dG S.L
 ln:S.L.n=0
 ld:S.L.d=bd
 sh:uD S.L s
theorem SK.secK{c:Cfg}{N bd:Nat}{S:bE}{s:Dev}(h:SK c N bd S s)(hc:bA c):AM S bd c s:=⟨h.lw,by have:=(jr hc).2.2;have:=h.hN;rw[h.n];omega,h.ld,h.lc⟩
structure HM(c:Cfg)(m:Int→Int)(a u:Int)(L:List Int):Prop where
 act:m c.active=a
 a01:0≤a∧a≤1
 used:m (c.active+1)=u
 u0:0≤u∧u≤c.space
 tile:iB m (c.frm a) L (c.frm a+u)
 names:∀ k∈L,∀ i,0≤i→i<orf m k→m (k+1+i)=0∨m (k+1+i)∈L
 roots:∀ i:Nat,(i:Int)<c.roots→m (c.root i)=0∨m (c.root i)∈L
abbrev AE(c:Cfg)(m:Int→Int)(a u:Int):Blk:=⟨a,u,tab c.roots.toNat fun i=>m (c.root i)⟩
theorem HM.block{c:Cfg}{s:Dev}{a u:Int}{L:List Int}(h:HM c s.load a u L):s.block c=(AE c s.load a u,0):=by
 have h1:=h.u0;have h2:=h.a01
 unfold Dev.block
 rw[h.act,h.used,if_neg (by omega)]
theorem HM.heap{c:Cfg}{m:Int→Int}{a u:Int}{L:List Int}(h:HM c m a u L):pV c (AE c m a u) m L:=by
 refine⟨by unfold Blk.place;simp only;rw[Int.add_zero];exact h.tile,h.names,fun w hw=> ?_⟩
 obtain⟨i,hi,rfl⟩:=List.mem_map.1 (show w∈(List.range c.roots.toNat).map fun (i:Nat)=>m (c.root i) from hw)
 have:=List.mem_range.1 hi
 exact h.roots i (by omega)
theorem HM.bw{c:Cfg}{m:Int→Int}{a u:Int}{L:List Int}(h:HM c m a u L):gi c (AE c m a u):=⟨h.a01,h.u0⟩
theorem vk{c:Cfg}(hc:bA c){a:Int}(ha:0≤a∧a≤1):c.frm a+c.space≤c.words∧c.active+2+c.roots≤c.frm a∧24≤c.active∧c.frm a+c.space≤20000:=by
 have h1:=iI hc (k:=0) (by omega)
 have h2:=iI hc (k:=1) (by omega)
 have h3:=hc.act;have h4:=hc.l1;have h5:=hc.r1;have h6:=hc.s1
 rcases (by omega:a=0∨a=1) with rfl | rfl<;>omega
theorem HM.congr{c:Cfg}(hc:bA c){m m':Int→Int}{a u:Int}{L:List Int}(h:HM c m a u L)(e:∀ j,c.active≤j→m' j=m j):HM c m' a u L:=by
 have hf:=vk hc h.a01
 have hr:=hc.r1
 have e0:∀ k∈L,m' k=m k:=fun k hk=>e k (by have:=h.tile.mem hk;omega)
 have eo:∀ k∈L,orf m' k=orf m k:=fun k hk=>by unfold orf;rw[e0 k hk]
 refine⟨by rw[e _ (Int.le_refl _)];exact h.act,h.a01,by rw[e _ (by omega)];exact h.used,h.u0,h.tile.congr e0,fun k hk i h1 h2=> ?_,fun i hi=> ?_⟩
 ·have:=h.tile.mem hk
  rw[eo k hk] at h2
  rw[e _ (by omega)];exact h.names k hk i h1 h2
 ·rw[e _ (by simp only[Cfg.root];omega)];exact h.roots i hi
theorem HM.alloc{c:Cfg}(hc:bA c){m m':Int→Int}{a u:Int}{L:List Int}(h:HM c m a u L){w r:Int}(hw:0≤r∧r≤w∧w≤64)(hroom:¬ c.space - u<w+1)
 (hm:∀ j,c.active≤j→m' j=if c.frm a+u≤j∧j<c.frm a+u+(w+1) then (if j=c.frm a+u then eA w r else 0) else if j=c.active+1 then u+(w+1) else m j):HM c m' a (u+(w+1)) (L++[c.frm a+u]):=by
 have hf:=vk hc h.a01
 have hu:=h.u0
 have hr1:=hc.r1
 have hold:∀ k∈L,∀ j,0≤j→j<osz m k→m' (k+j)=m (k+j):=fun k hk j h0 h1=>by
  have:=h.tile.mem hk
  rw[hm _ (by omega),if_neg (by omega),if_neg (by omega)]
 have hold0:∀ k∈L,m' k=m k:=fun k hk=>by
  have:=hold k hk 0 (Int.le_refl 0) (by have:=il m k;omega)
  simpa using this
 have hnew:m' (c.frm a+u)=eA w r:=by rw[hm _ (by omega),if_pos (by omega),if_pos rfl]
 have hun:unp (m' (c.frm a+u))=(w,r,true):=by rw[hnew];exact sy hw
 refine⟨by rw[hm _ (Int.le_refl _),if_neg (by omega),if_neg (by omega)];exact h.act,h.a01,by rw[hm _ (by omega),if_neg (by omega),if_pos aa],by omega,?_,fun k hk i h0 h1=> ?_,fun i hi=> ?_⟩
 ·have h1:=(h.tile.congr hold0).snoc (by rw[hun])
  have h2:osz m' (c.frm a+u)=w+1:=by unfold osz;rw[hun]
  rw[h2,Int.add_assoc] at h1
  exact h1
 ·rcases List.mem_append.1 hk with hk | hk
  ·have e:orf m' k=orf m k:=by unfold orf;rw[hold0 k hk]
   rw[e] at h1
   have hz:=il m k
   have:=hold k hk (1+i) (by omega) (by omega)
   rw[←Int.add_assoc] at this
   rw[this]
   exact(h.names k hk i h0 h1).imp id (List.mem_append_left _)
  ·rw[List.mem_singleton.1 hk] at h1 ⊢
   have:orf m' (c.frm a+u)=r:=by unfold orf;rw[hun]
   rw[this] at h1
   left
   rw[hm _ (by omega),if_pos (by omega),if_neg (by omega)]
 ·have:m' (c.root i)=m (c.root i):=by
   simp only[Cfg.root]
   rw[hm _ (by omega),if_neg (by omega),if_neg (by omega)]
  rw[this]
  exact(h.roots i hi).imp id (List.mem_append_left _)
theorem HM.set{c:Cfg}(hc:bA c){m m':Int→Int}{a u:Int}{L:List Int}(h:HM c m a u L){i v:Int}(hm:∀ j,c.active≤j→m' j=if j=i then v else m j)
 (hi:(∃ k∈L,∃ j,orf m k≤j∧j+1<osz m k∧i=k+1+j)∨((v=0∨v∈L)∧((∃ k∈L,∃ j,0≤j∧j<orf m k∧i=k+1+j)∨∃ r:Nat,(r:Int)<c.roots∧i=c.root r))):HM c m' a u L:=by
 have hf:=vk hc h.a01
 have hu:=h.u0
 have hr1:=hc.r1
 have hin:(∃ k∈L,∃ j,0≤j∧j+1<osz m k∧i=k+1+j)∨∃ r:Nat,(r:Int)<c.roots∧i=c.root r:=by
  rcases hi with ⟨k,hk,j,h1,h2,h3⟩ | ⟨_,⟨k,hk,j,h1,h2,h3⟩ | hr⟩
  ·exact .inl ⟨k,hk,j,by have:=il m k;omega,h2,h3⟩
  ·exact .inl ⟨k,hk,j,h1,by have:=il m k;omega,h3⟩
  ·exact .inr hr
 have hnh:∀ k∈L,k≠i:=fun k hk e=>by
  have h1:=h.tile.mem hk
  rcases hin with ⟨k',hk',j,h2,h3,h4⟩ | ⟨r,h2,h3⟩
  ·rcases Int.lt_trichotomy k k' with hl | he | hl
   ·omega
   ·omega
   ·have:=h.tile.disj hk' hk hl;omega
  ·simp only[Cfg.root] at h3;omega
 have hlow:c.active+2≤i:=by
  rcases hin with ⟨k',hk',j,h2,h3,h4⟩ | ⟨r,h2,h3⟩
  ·have h1:=h.tile.mem hk';omega
  ·simp only[Cfg.root] at h3;omega
 have hLa:∀ k∈L,c.active≤k:=fun k hk=>by have:=h.tile.mem hk;omega
 have e0:∀ k∈L,m' k=m k:=fun k hk=>by rw[hm k (hLa k hk),if_neg (hnh k hk)]
 have eo:∀ k∈L,orf m' k=orf m k:=fun k hk=>by unfold orf;rw[e0 k hk]
 refine⟨by rw[hm _ (Int.le_refl _),if_neg (by omega)];exact h.act,h.a01,by rw[hm _ (by omega),if_neg (by omega)];exact h.used,h.u0,h.tile.congr e0,fun k hk j h1 h2=> ?_,fun r hr=> ?_⟩
 ·rw[eo k hk] at h2
  have hka:=hLa k hk
  rw[hm _ (by omega)]
  by_cases hx:k+1+j=i
  ·rw[if_pos hx]
   rcases hi with ⟨k',hk',j',g1,g2,g3⟩ | ⟨hv,_⟩
   ·exfalso
    have hz:=il m k;have hz':=il m k'
    rcases Int.lt_trichotomy k k' with hl | he | hl
    ·have:=h.tile.disj hk hk' hl;omega
    ·subst he;omega
    ·have:=h.tile.disj hk' hk hl;omega
   ·exact hv
  ·rw[if_neg hx];exact h.names k hk j h1 h2
 ·rw[hm _ (by simp only[Cfg.root];omega)]
  by_cases hx:c.root r=i
  ·rw[if_pos hx]
   rcases hi with ⟨k',hk',j',g1,g2,g3⟩ | ⟨hv,_⟩
   ·exfalso
    have h1:=h.tile.mem hk'
    have hz':=il m k'
    simp only[Cfg.root] at hx;omega
   ·exact hv
  ·rw[if_neg hx];exact h.roots r hr
theorem va{kp:Prop}{c:Cfg}{N:Nat}{old:Nat→Int}{js:List Nat}{S:bE}{s:Dev}(h:In kp c N old js S s)(hc:bA c){i:Nat}(v:Int)(hi:c.active≤i∧i<N)(hv:0≤v∧v<18446744073709551616)(hu:U64 s)(hr:(S.ff≤i∧(i:Int)<S.ft)∨i∈js∨(js.length:Int)<c.log):
 ∃ S' s' js',S.store s i v= .ok (0,S') s'∧In kp c N old js' S' s'∧U64 s'∧(S'.ff=S.ff∧S'.ft=S.ft∧S'.L.d=S.L.d∧S'.L.c=S.L.c)∧(js'=js∨(js'=js++[i]∧¬ (S.ff≤i∧(i:Int)<S.ft)))∧∀ j:Int,c.active≤j→s'.load j=if j=i then v else s.load j:=by
 have hA:=jr hc
 have hN:=h.hN
 have hn:=h.n
 have hsw:=wD h hc (by omega)
 have ldf:∀ s':Dev,s'.n=N→s'.now i=v→(∀ x:Nat,c.active≤x→x≠i→s'.now x=s.now x)→∀ j:Int,c.active≤j→s'.load j=if j=i then v else s.load j:=fun s' hn' h1 h2 j hj=>by
  by_cases hr:j<N
  ·rw[km (s:=s') (k:=j.toNat) (by omega) (by omega),km (s:=s) (k:=j.toNat) (by omega) (by omega)]
   by_cases e:j=i
   ·rw[if_pos e,show j.toNat=i by omega];exact h1
   ·rw[if_neg e];exact h2 _ (by omega) (by omega)
  ·have z:∀ t:Dev,t.n=N→t.load j=0:=fun t ht=>by
    unfold Dev.load Dev.has
    rw[if_neg (by simp;omega)]
   rw[z s' hn',z s hn,if_neg (by omega)]
 by_cases hno:i∈js∨(S.ff≤i∧(i:Int)<S.ft)
 ·obtain⟨e1,e2⟩:=zA h hc v hi hno
  have hu':=(jB hsw hu (by omega) hv e1).1
  refine⟨_,_,js,e1,e2,hu',⟨rfl,rfl,rfl,rfl⟩,.inl aa,ldf _ e2.n ?_ fun x _ hx=> ?_⟩
  ·rw[ei];unfold upd;rw[if_pos rfl]
  ·rw[ei];unfold upd;rw[if_neg hx]
 ·have hroom:(js.length:Int)<c.log:=by
   rcases hr with hr | hr | hr
   ·exact absurd (.inr hr) hno
   ·exact absurd (.inl hr) hno
   ·exact hr
  obtain⟨s',e1,e2,e3,e4⟩:=zw h hc v hi (fun hx=>hno (.inl hx)) (fun hx=>hno (.inr hx)) hroom
  have hu':=(jB hsw hu (by omega) hv e1).1
  exact⟨_,s',_,e1,e2,hu',⟨rfl,rfl,rfl,rfl⟩,.inr ⟨rfl,fun hx=>hno (.inr hx)⟩,ldf s' e2.n e3 e4⟩
theorem wE{kp:Prop}{c:Cfg}{N:Nat}{old:Nat→Int}{js:List Nat}(hc:bA c){a h0:Int}(hh:0≤h0∧h0<18446744073709551616):∀ (f:Nat) (i:Int) (S:bE) (s:Dev),In kp c N old js S s→U64 s→0≤i→c.active≤a→a+i+f≤N→S.ff≤a→a+i+f≤S.ft→
 ∃ S' s',eY gj a h0 f i s S= .ok ((a,0),S') s'∧In kp c N old js S' s'∧U64 s'∧(S'.ff=S.ff∧S'.ft=S.ft∧S'.L.d=S.L.d∧S'.L.c=S.L.c)∧∀ j:Int,c.active≤j→s'.load j=if a+i≤j∧j<a+i+f then (if j=a then h0 else 0) else s.load j
 | 0,i,S,s,h,hu,hi,ha,hf,_,_=>⟨S,s,rfl,h,hu,⟨rfl,rfl,rfl,rfl⟩,fun j _=>by rw[if_neg (by omega)]⟩
 | f+1,i,S,s,h,hu,hi,ha,hf,h1,h2=>by
   have hA:=jr hc
   obtain⟨v,hvd⟩:∃ v,v=if i=0 then h0 else 0:=⟨_,rfl⟩
   have hv:0≤v∧v<18446744073709551616:=by rw[hvd];split<;>first | exact hh | decide
   obtain⟨S1,s1,js1,e1,e2,e3,e4,e5,e6⟩:=va h hc (i:=(a+i).toNat) v (by omega) hv hu (.inl (by omega))
   have hjs:js1=js:=by
    rcases e5 with e5 | ⟨_,e5⟩
    ·exact e5
    ·exact absurd (show S.ff≤((a+i).toNat:Int)∧((a+i).toNat:Int)<S.ft by omega) e5
   subst hjs
   obtain⟨S',s',g1,g2,g3,g4,g5⟩:=wE hc hh f (i+1) S1 s1 e2 e3 (by omega) ha (by omega) (by rw[e4.1];exact h1) (by rw[e4.2.1];omega)
   refine⟨S',s',?_,g2,g3,⟨g4.1.trans e4.1,g4.2.1.trans e4.2.1,g4.2.2.1.trans e4.2.2.1,g4.2.2.2.trans e4.2.2.2⟩,fun j hj=> ?_⟩
   ·unfold eY
    rw[←hvd,show gj (a+i) v s S= .ok (0,S1) s1 from by rw[show(a+i)=(((a+i).toNat:Nat):Int) by omega];exact e1]
    simp only[aR]
    rw[if_neg (by decide)]
    exact g1
   ·rw[g5 j hj]
    by_cases hj2:j=a+i
    ·rw[if_neg (by omega),e6 j hj,if_pos (by omega),if_pos (by omega),hvd]
     by_cases h0:i=0
     ·rw[if_pos h0,if_pos (by omega)]
     ·rw[if_neg h0,if_neg (by omega)]
    ·by_cases hr:a+(i+1)≤j∧j<a+(i+1)+f
     ·rw[if_pos hr,if_pos (c:=a+i≤j∧j<a+i+((f+1:Nat):Int)) (by omega)]
     ·rw[if_neg hr,if_neg (c:=a+i≤j∧j<a+i+((f+1:Nat):Int)) (by omega),e6 j hj,if_neg (by omega)]
theorem zy{kp:Prop}{c:Cfg}(hc:bA c){N:Nat}{old:Nat→Int}{js:List Nat}{S:bE}{s:Dev}(h:In kp c N old js S s)(hu:U64 s){a u:Int}{L:List Int}(hm:HM c s.load a u L){w r:Int}(hw:0≤r∧r≤w∧w≤64)(hroom:¬ c.space - u<w+1)(hff:S.ff≤c.frm a+u)(hft:S.ft=c.frm a+c.space)(hff2:c.frm a≤S.ff)
 (hr:(c.active+1).toNat∈js∨(js.length:Int)<c.log):
 ∃ S' s' js',cO gj c w r s S= .ok ((c.frm a+u,0),S') s'∧In kp c N old js' S' s'∧U64 s'∧(S'.ff=S.ff∧S'.ft=S.ft∧S'.L.d=S.L.d∧S'.L.c=S.L.c)∧js'.length≤js.length+1∧(js'=js∨js'=js++[(c.active+1).toNat])∧HM c s'.load a (u+(w+1)) (L++[c.frm a+u])∧
  ∀ j,c.active≤j→s'.load j=if c.frm a+u≤j∧j<c.frm a+u+(w+1) then (if j=c.frm a+u then eA w r else 0) else if j=c.active+1 then u+(w+1) else s.load j:=by
 have hA:=jr hc
 have hf:=vk hc hm.a01
 have hu0:=hm.u0
 have hr1:=hc.r1
 have hN:=h.hN
 obtain⟨S1,s1,js1,e1,e2,e3,e4,e5,e6⟩:=va h hc (i:=(c.active+1).toNat) (u+(w+1)) (by omega) (by omega) hu (.inr hr)
 obtain⟨S',s',g1,g2,g3,g4,g5⟩:=wE hc (a:=c.frm a+u) (rz w r) (w+1).toNat 0 S1 s1 e2 e3 (Int.le_refl 0) (by omega) (by omega) (by rw[e4.1];omega) (by rw[e4.2.1];omega)
 have hld:∀ j,c.active≤j→s'.load j=if c.frm a+u≤j∧j<c.frm a+u+(w+1) then (if j=c.frm a+u then eA w r else 0) else if j=c.active+1 then u+(w+1) else s.load j:=fun j hj=>by
  rw[g5 j hj,e6 j hj]
  by_cases hj2:c.frm a+u≤j∧j<c.frm a+u+(w+1)
  ·rw[if_pos hj2,if_pos (by omega)]
  ·rw[if_neg hj2,if_neg (by omega)]
   by_cases e:j=c.active+1
   ·rw[if_pos e,if_pos (by omega)]
   ·rw[if_neg e,if_neg (by omega)]
 refine⟨S',s',js1,?_,g2,g3,⟨g4.1.trans e4.1,g4.2.1.trans e4.2.1,g4.2.2.1.trans e4.2.2.1,g4.2.2.2.trans e4.2.2.2⟩,?_,e5.imp id And.left,hm.alloc hc hw hroom hld,hld⟩
 ·have hk:my w r=0:=by unfold my;rw[if_pos (by omega)]
  unfold cO
  rw[if_neg (by rw[hk];decide),hm.block,if_neg (by simp)]
  simp only
  rw[if_neg hroom,show gj (c.active+1) (u+(w+1)) s S= .ok (0,S1) s1 from by rw[show(c.active+1)=(((c.active+1).toNat:Nat):Int) by omega];exact e1]
  simp only[aR]
  rw[if_neg (by decide)]
  exact g1
 ·rcases e5 with e5 | ⟨e5,_⟩<;>rw[e5]<;>simp
theorem iB.len{m:Int→Int}:∀ {L:List Int} {a e:Int},iB m a L e→(L.length:Int)≤e - a
 | [],a,e,h=>by cases h;simp
 | x::t,a,e,h=>by have:=h.2.2.len;have:=il m a;simp only[List.length_cons];omega
section
variable {c:Cfg} {b:Blk} {L:List Int} {s:Dev}
def Bl(s:Dev)(k:Int):db:=(osz s.load k - 1,orf s.load k,k)
theorem qy(hc:bA c)(hb:gi c b)(h:pV c b s.load L):∀ (t:List Int) (a:Int) (f:Nat),iB s.load a t (b.place c b.used)→(∀ k∈t,k∈L)→t.length<f→s.objs c b f a=t.map fun k=>(Bl s k,0)
 | [],a,f+1,ht,_,_=>by
   unfold Dev.objs
   rw[if_pos (by rw[show a=b.place c b.used from ht];exact Int.le_refl _)];rfl
 | k::t,a,f+1,ht,hl,hf=>by
   obtain⟨rfl,h2,h3⟩:=ht
   have hz:=il s.load k
   have hle:=h3.le
   have ho:=(rI hc hb h (hl k (List.mem_cons_self ..))).1
   simp only[List.length_cons] at hf
   unfold Dev.objs
   rw[if_neg (by omega),ho,if_neg (by simp)]
   simp only[List.map_cons]
   rw[show k+(osz s.load k - 1+1)=k+osz s.load k by omega,qy hc hb h t _ f h3 (fun x hx=>hl x (List.mem_cons_of_mem _ hx)) (by omega)]
   rfl
 | _,_,0,_,_,hf=>absurd hf (Nat.not_lt_zero _)
theorem qN(hc:bA c)(hb:gi c b)(h:pV c b s.load L):s.objs c b (b.used.toNat+1) (b.place c 0)=L.map fun k=>(Bl s k,0):=by
 have h1:=h.tile.len
 have h2:=hb.used
 exact qy hc hb h L _ _ h.tile (fun _ h=>h) (by unfold Blk.place at h1;omega)
theorem rE{α ι:Type}{st:α→ι→Bool×ι}{g:ι→α→ι}:∀ (l:List α) (x:ι),(∀ a∈l,∀ x,st a x=(true,g x a))→itl st l x=(true,l.foldl g x)
 | [],x,_=>rfl
 | a::t,x,h=>by
   have e:=h a (List.mem_cons_self ..) x
   unfold itl
   rw[if_pos (by rw[e]),e]
   exact rE t _ fun b hb=>h b (List.mem_cons_of_mem _ hb)
theorem qT{β:Type}(f:Int→β):∀ (l:List Int) (x:List (Int×β)×Int) (k:Int),(k∈l∨(bP x.1 k).isSome=true)→(bP (l.foldl (fun y k=>(mset y.1 k (f k),y.2)) x).1 k).isSome=true
 | [],x,k,h=>h.resolve_left (by simp)
 | a::t,x,k,h=>by
   refine qT f t _ k ?_
   by_cases e:k=a
   ·right;simp only;rw[ja,if_pos e];rfl
   ·rcases h with h | h
    ·exact .inl ((List.mem_cons.1 h).resolve_left e)
    ·right;simp only;rw[ja,if_neg e];exact h
theorem tV{β:Type}(f:Int→β):∀ (l:List Int) (x:List (Int×β)×Int),(l.foldl (fun y k=>(mset y.1 k (f k),y.2)) x).2=x.2
 | [],_=>rfl
 | a::t,x=>tV f t _
theorem tL(hc:bA c)(hb:gi c b)(h:pV c b s.load L):(s.starts c b).2=0∧∀ k∈L,(bP (s.starts c b).1 k).isSome=true:=by
 have e:s.starts c b=L.foldl (fun y k=>(mset y.1 k (Bl s k),y.2)) ([],0):=by
  unfold Dev.starts Dev.startsI
  rw[qN hc hb h,rE (g:=fun y (p:db×Int)=>(mset y.1 p.1.2.2 p.1,y.2)) _ _ (fun p hp x=>by
   obtain⟨k,_,rfl⟩:=List.mem_map.1 hp
   unfold stS
   rw[if_neg (by simp)]),List.foldl_map]
  rfl
 rw[e]
 exact⟨tV _ _ _,fun k hk=>qT _ _ _ _ (.inl hk)⟩
theorem po(hc:bA c)(hu:U64 s)(hbl:s.block c=(b,0))(h:pV c b s.load L):s.check c=0:=by
 have hb0:b=(s.block c).1:=by rw[hbl]
 have hb:gi c b:=by rw[hb0];exact dB hc hu
 obtain⟨h1,h2⟩:=tL hc hb h
 have hn:∀ v,v=0∨v∈L→dl c b (s.starts c b).1 v=true:=fun v hv=>by
  unfold dl
  rcases hv with rfl | hv
  ·simp
  ·rw[(rI hc hb h hv).2,h2 v hv];simp
 unfold Dev.check
 rw[hbl]
 simp only
 rw[if_neg (by simp),if_neg (by rw[h1];simp),if_pos]
 ·rw[qN hc hb h,rE (g:=fun y _=>y)]
  ·have:∀ (l:List (db×Int)) (x:Int),l.foldl (fun y _=>y) x=x:=fun l=>by
    induction l with
    | nil=>intro x;rfl
    | cons a t ih=>intro x;exact ih x
   rw[this]
  ·intro p hp x
   obtain⟨k,hk,rfl⟩:=List.mem_map.1 hp
   unfold stC
   rw[if_pos]
   unfold sX
   rw[List.all_eq_true]
   intro j hj
   have:=List.mem_range.1 hj
   simp only[Bl] at this ⊢
   exact hn _ (h.names k hk j (by omega) (by omega))
 ·rw[List.all_eq_true]
  exact fun v hv=>hn v (h.roots v hv)
end
end Go.Proofs.YtoakdoeajpjgkaaGreatDoor
