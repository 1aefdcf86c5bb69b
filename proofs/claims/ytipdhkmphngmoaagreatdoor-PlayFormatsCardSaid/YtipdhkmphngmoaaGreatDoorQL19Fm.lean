/- Part of a law's texts. Conditions: none. -/
import Derived.Test.YtipdhkmphngmoaaGreatDoorQL19Fl
open Go.Proofs.Tryz
set_option linter.all false
namespace Go.Proofs.YtipdhkmphngmoaaGreatDoor
open Go
structure HpS where
 bd:Nat
 c:Cfg
 S:bD
 o:Bool
 T:eT
 X:Option bC
def k7:Bool→Nat→bD→HP
 | true=>gS
 | false=>dV
def vx(x:Nat):Option bC→HP
 | none=>pr True
 | some X=>eD x X
def BP(x:Nat):Option bC→Value
 | none=> .pointer none
 | some _=>ptr x
abbrev bX(bh bs bt x:Nat)(h:HpS):HP:=row bh [ptr h.bd,i64 h.c.log,i64 h.c.roots,i64 h.c.space,ptr bs,ptr bt,BP x h.X] 123
def bZ(bh:Nat)(h:HpS):HP:=hex fun (x:Nat×Nat×Nat)=>grp [bX bh x.1 x.2.1 x.2.2 h,k7 h.o x.1 h.S,eu x.2.1 h.T,vx x.2.2 h.X]
section
variable {B:World} {n:Nat} {D:List Deferred} {σ:Env} {Fr:List HP} {K:Act→World→Prop} {bh bs bt x:Nat} {h:HpS} {w:World}
theorem dO(g:∀ bs bt x,GO B n D σ (bX bh bs bt x h::k7 h.o bs h.S::eu bt h.T::vx x h.X::Fr) K):GO B n D σ (bZ bh h::Fr) K:=fun a w st=>by
 obtain⟨x,hx⟩:=st.holds.hex
 exact g x.1 x.2.1 x.2.2 a w ⟨st.toStA,hx.grp⟩
theorem ce(hh:Holds B (bX bh bs bt x h::k7 h.o bs h.S::eu bt h.T::vx x h.X::Fr) w):Holds B (bZ bh h::Fr) w:=
 Holds.unhex (bs,bt,x) (Holds.ungrp (l:=[bX bh bs bt x h,k7 h.o bs h.S,eu bt h.T,vx x h.X]) hh)
end
structure db(h:HpS)(s:Dev):Prop where
 c:bx h.c
 k:AD h.S h.bd h.c s
 sw:h.o=true→lF h.S∧h.S.dirty.length≤1000000
 u:U64 s
 t1:0≤h.T.last∧h.T.last≤1000000000
 tl:h.T.at_.length≤800000
 tp:∀ p∈h.T.at_,0≤p.2∧p.2≤1000000
 x:∀ X,h.X=some X→fj X∧X.bd=h.bd∧X.c=h.c∧0<X.b.rts.length
abbrev HpS.blk(h:HpS)(s:Dev):Blk:=(s.block h.c).1
def HpS.obj(h:HpS)(s:Dev)(n:Int):dq×Int:=if (bG h.T.at_ n).isSome=true then s.objOf h.c (h.blk s) ((bG h.T.at_ n).getD 0) else ((0,0,0),6)
def HpS.plc(h:HpS)(n:Int):Int×Int:=if (bG h.T.at_ n).isSome=true∨n=0 then ((bG h.T.at_ n).getD 0,0) else (0,6)
def HpS.words(h:HpS):List Int:=(cq (h.T.at_.map Prod.fst)).map fun n=>(bG h.T.at_ n).getD 0
theorem eX(B:World)(Fr:List HP)(bh bs bt x:Nat)(h:HpS)(s:Dev)(hc:bx h.c)(hu:U64 s):
 ∀ w,Holds B (bX bh bs bt x h::ax h.bd s::Fr) w→Calls Tryz.prog 73 [ptr bh].toArray w (Ret B (fun rv H'=>∃ sv,aN sv=true∧rv=lC (h.blk s) sv∧H'=da 0 (sv,(h.blk s).rts)::bX bh bs bt x h::ax h.bd s::Fr) (fun _ _=>False)):=by
 refine ak func73 aa ntmps73 aa (ac (ab (kPb (aD zeroValue125 aa) aa fun b2=>(ad (ac ?_)))))
 refine kV (.br [0,1,2,3,4,5,6,7] 8 (.fin [9,10,11,12,13,14]) 12 (.fin [8,9,10,11,13,14])) [8,12,13] [0,1,2,3,4,5,6,7,9,10,11] [12,13] [bX bh bs bt x h] [] (G:=Nat×Value) (fun (b3,sv)=>[(3,ptr b3),(2,ptr b2)]) (fun (b3,sv)=>row b3 [i64 (h.blk s).act,i64 (h.blk s).used,sv] 125::da 0 (sv,(h.blk s).rts)::bX bh bs bt x h::ax h.bd s::row b2 [i64 0,i64 0,.slice none 0 0] 125::Fr) Tryz.mixed (by kernel_rfl) ?_ ?_
 ·skip
  refine w9 (an aa aa aa (al aa) .free aa (an aa aa aa (aF aa) .free aa (an aa aa aa (aC (m:=_) eQ aa aa) .free aa (an aa aa aa (ag isAgg53 aa aa) .free aa (an aa aa aa (al aa) .free aa (an aa aa aa (aF aa) .free aa (an aa aa aa (aC (m:=_) c6 aa aa) .free aa (an aa aa aa (ah isAgg39 sizeOf39 aa aa) .free aa ?_))))))))
  refine cM ?_
  refine p8 aa aa ?_ ?_
  ·skip
   refine aM [2] (aE aa (ar call135 aa) (fX _ _ _ _ h.c hc hu) .free aa aa ?_)
   rintro _ _ ⟨sv14,hsv14,rfl,rfl⟩
   refine ad (se aa (jV (an aa aa aa (al aa) .free aa (an aa aa aa (az aa aa) .free aa (an aa aa aa (az aa aa) .free aa (aS aa aa (kPb (aD zeroValue125 aa) aa fun b3=>(ad (cL (aS aa aa ?_))))))))))
   refine kPs (aA (vs:=_) sizeOf125 aa aa aa (by first | rfl | exact eB (by assumption)) rfl) rfl ?_
   refine ad (cL (aT aa aa aa (bE aa) .free aa (cM ?_)))
   exact fun a w st_=>⟨(b3,sv14),st_.to ⟨rfl,rfl,trivial⟩ (fun hh=>(hh.pk [0,0,2]))⟩
  ·skip
   refine kPb (aD zeroValue125 aa) aa fun b3=>(ad (ul (jV (aS aa aa (aM [3] (aE aa (ar call135 aa) (fX _ _ _ _ h.c hc hu) .free aa aa ?_))))))
   rintro _ _ ⟨sv14,hsv14,rfl,rfl⟩
   refine ad (cZ aa (an aa aa aa (al aa) .free aa (an aa aa aa (az aa aa) .free aa (an aa aa aa (az aa aa) .free aa (aS aa aa ?_)))))
   refine kPs (aA (vs:=_) sizeOf125 aa aa aa (by first | rfl | exact eB (by assumption)) rfl) rfl ?_;refine ad ?_;refine cL ?_;refine aT aa aa aa (bE aa) .free aa ?_;refine cM ?_
   exact fun a w st_=>⟨(b3,sv14),st_.to ⟨rfl,rfl,trivial⟩ (fun hh=>(hh.pk [2,0,2]))⟩
 rintro⟨b3,sv⟩
 refine cE (σ':=[(3,ptr b3),(2,ptr b2)]) ⟨rfl,rfl,trivial⟩ (ac (aM [1] (cy fun qv cv hqv hqi=> ?_)))
 subst hqv
 refine ab (kPv (ah isAgg125 sizeOf125 aa aa) aa ?_)
 refine kPs (aA (vs:=_) sizeOf125 aa aa aa (by first | rfl | exact eB (by assumption)) rfl) rfl ?_;refine ad ?_;refine au ?_
 exact qg results73 (.cellA aa isAgg125 sizeOf125 aa aa) (fun w hw=>⟨_,⟨.slice qv (h.blk s).rts.length cv,rfl,rfl,rfl⟩,(hw.dp [1,3])⟩)
theorem sV{α:Type}{k:Int}{v:α}:∀ {l:List (Int×α)},bG l k=some v→(k,v)∈l
 | [],h=>by cases h
 | q::l,h=>by
   unfold bG at h
   split at h
   ·rename_i e;cases h;rw[←e];exact List.mem_cons_self ..
   ·exact List.mem_cons_of_mem _ (sV h)
theorem db.pb{h:HpS}{s:Dev}(hW:db h s)(n:Int):0≤(bG h.T.at_ n).getD 0∧(bG h.T.at_ n).getD 0≤1000000:=by
 cases hm:bG h.T.at_ n with
 | none=>simp
 | some v=>exact hW.tp _ (sV hm)
theorem ir(B:World)(Fr:List HP)(bh bs bt x:Nat)(h:HpS)(s:Dev)(hW:db h s)(n:Int):
 ∀ w,Holds B (bX bh bs bt x h::eu bt h.T::ax h.bd s::Fr) w→Calls Tryz.prog 79 [ptr bh,i64 n].toArray w (aZ B (bX bh bs bt x h::eu bt h.T::ax h.bd s::Fr) (.tuple #[gL (h.obj s n).1,i64 (h.obj s n).2])):=by
 refine ak func79 aa ntmps79 aa ?_
 have hc:=hW.c
 have hu:=hW.u
 have hbk:=dB (s:=s) hc hu
 have hbl:(h.blk s).rts.length≤16:=fc (s:=s) hc
 refine ac (ab (kPb (aD zeroValue134 aa) aa fun b4=>(kPa aa aa (ad (ac (ab (kPf eP isAgg120 aa aa aa aa (kPm aa aa (ap aa (ar call142 aa) (bF (q:=eu) (fun Fr=>mK _ Fr bt h.T n)) .free aa aa ?_)))))))))
 refine kPm aa aa (kPv (az aa aa) aa (kPv (az aa aa) aa (kPa aa aa (kPa aa aa (ad (aj [7,6,5,4,0] rfl (ac (ac (ab (kPm aa aa (kPv (bu aa) aa ?_)))))))))))
 refine ad ?_
 refine aV aa (fun h18=> ?_) (fun h18=> ?_)
 ·have hk:¬ (bG h.T.at_ n).isSome=true:=by simpa using h18
  have hres:h.obj s n=((0,0,0),6):=by unfold HpS.obj;rw[if_neg hk]
  refine ac (ab (kPv (aR aa (rU)) aa (kPs (aA (vs:=_) sizeOf134 aa aa aa aa aa) aa (kPa aa aa (ad (au ?_))))))
  exact fY results79 (.cellA aa isAgg134 sizeOf134 aa aa) (.tmp aa) (fun w hw=>⟨by rw[hres];rfl,(hw.dp [0])⟩)
 ·have hk:(bG h.T.at_ n).isSome=true:=by simpa using h18
  have hres:h.obj s n=s.objOf h.c (h.blk s) ((bG h.T.at_ n).getD 0):=by unfold HpS.obj;rw[if_pos hk]
  refine aw (ac (cQ [0,1,2,3,4,5,6,7,8,10,9,11,12,13,14,15] [9,11,14] [0,1,2,3,4,5,6,7,10] [9] [bX bh bs bt x h] Tryz.mixed (by kernel_rfl) ?_))
  refine an aa aa aa (al aa) .free aa (an aa aa aa (aF aa) .free aa (an aa aa aa (aC (m:=_) eQ aa aa) .free aa (an aa aa aa (ag isAgg53 aa aa) .free aa (an aa aa aa (al aa) .free aa (an aa aa aa (aF aa) .free aa (an aa aa aa (aC (m:=_) c6 aa aa) .free aa (an aa aa aa (ah isAgg39 sizeOf39 aa aa) .free aa ?_)))))))
  refine aT aa aa aa (al aa) .free aa (an aa aa aa (al aa) .free aa (aS aa aa (aM [1,2] (aE aa (ar call73 aa) (eX B _ bh bs bt x h s hc hu) .free aa aa ?_))))
  rintro _ _ ⟨sv,hsv,rfl,rfl⟩
  refine ad (cL (aS aa aa (ap aa (ar call143 aa) (bF (q:=ax) (fun Fr=>kc _ Fr _ _ h.c hc (h.blk s) sv hbk hsv _ (by have:=hW.pb n;omega))) .free aa aa ?_)))
  refine ad (cZ aa (aT aa aa aa (az aa aa) .free aa (aT aa aa aa (az aa aa) .free aa (aS aa aa (kPs (aA (vs:=_) sizeOf134 aa aa aa aa aa) aa (ad (cZ aa (aT aa aa aa (bE aa) .free aa (cM (aj [5,4] rfl (au ?_)))))))))))
  exact fY results79 (.cellA aa isAgg134 sizeOf134 aa aa) (.tmp aa) (fun w hw=>⟨by rw[hres];rfl,((hw.dp [0,2]).pk [0,1])⟩)
theorem wi(B:World)(Fr:List HP)(bh bs bt x:Nat)(h:HpS)(s:Dev)(n:Int):
 ∀ w,Holds B (bX bh bs bt x h::eu bt h.T::Fr) w→Calls Tryz.prog 80 [ptr bh,i64 n].toArray w (aZ B (bX bh bs bt x h::eu bt h.T::Fr) (.tuple #[i64 (h.plc n).1,i64 (h.plc n).2])):=by
 refine ak func80 aa ntmps80 aa (ac (ab (kPa aa aa (kPa aa aa (ad (ac (ab (kPf eP isAgg120 aa aa aa aa (kPm aa aa (ap aa (ar call142 aa) (bF (q:=eu) (fun Fr=>mK _ Fr bt h.T n)) .free aa aa ?_))))))))))
 refine kPm aa aa (kPv (az aa aa) aa (kPv (az aa aa) aa (kPa aa aa (kPa aa aa (ad (aj [7,6,5,4,1] rfl (ac (ac (ab (kPm aa aa (kPv (bu aa) aa ?_)))))))))))
 refine kPm aa aa ?_
 apply dS (tp:=22) (t:=19) (σ1:=[(19,_),(6,_),(5,_),(4,_)]) 3 rfl (aG rfl)
 ·intro hg1
  refine ao aa (al aa) (.on aa aa (ae hg1)) aa aa (ao aa (am aa aa aa) (.on aa aa (ae hg1)) aa aa (kPv (aB aa hg1 aa) aa ?_))
  exact bf aa (aG aa) (dj hg1)
 ·intro hg1
  refine ay aa (.on aa aa (ai hg1)) aa (ay aa (.on aa aa (ai hg1)) aa (kPv (aJ aa hg1 aa) aa ?_))
  exact bf aa (aG aa) (dl hg1)
 refine ad ?_
 refine aV aa (fun h22=> ?_) (fun h22=> ?_)
 ·have hk:¬ ((bG h.T.at_ n).isSome=true∨n=0):=by simpa using h22
  have hres:h.plc n=(0,6):=by unfold HpS.plc;rw[if_neg hk]
  refine ac (ab (kPa aa aa (kPa aa aa (ad (au ?_)))))
  exact bz results80 aa aa (fun w hw=>⟨by rw[hres],hw⟩)
 ·have hk:(bG h.T.at_ n).isSome=true∨n=0:=by
   cases hm:(bG h.T.at_ n).isSome<;>simp[hm] at h22<;>simp[h22]
  have hres:h.plc n=((bG h.T.at_ n).getD 0,0):=by unfold HpS.plc;rw[if_pos hk]
  refine aw (ac (ab (kPm aa aa (kPa aa aa (kPa aa aa (ad (au ?_)))))))
  exact bz results80 aa aa (fun w hw=>⟨by rw[hres];rfl,hw⟩)
theorem mI(B:World)(Fr:List HP)(bh bs bt x:Nat)(h:HpS)(s:Dev)(hW:db h s):
 ∀ w,Holds B (bX bh bs bt x h::eu bt h.T::Fr) w→Calls Tryz.prog 90 [ptr bh].toArray w (Ret B (fun rv H'=>aN rv=true∧H'=da 0 (rv,h.words)::bX bh bs bt x h::eu bt h.T::Fr) (fun _ _=>False)):=by
 refine ak func90 aa ntmps90 aa ?_
 have hkl:(cq (h.T.at_.map Prod.fst)).length≤800000:=by have:=hW.tl;rw[cq,List.length_mergeSort,List.length_map];exact this
 refine ac (ab (kPa aa aa (ad (ac (ab (kPa aa aa (ad (ac (ac (aK (fun w hh=>fE (T:=24) (enc:=w64) hh) (ab ?_)))))))))))
 refine kPf eP isAgg120 aa aa aa aa (aM [2] (aE aa (ar call87 aa) (nu B _ bt h.T (by have:=hW.tl;omega)) .free aa aa ?_))
 rintro rv _ rfl
 refine aK (fun w hh=>uc hh) (cy fun qn cn hqn hqi=> ?_)
 subst hqn
 refine kPv (bS aa runUnderlying59 ⟨_,rfl⟩ rfl) aa (kPm aa aa (ad (aI (df (ι:=Nat×Value×List Int) [13,12,2,0] (fun (k,sv,ws)=>(k≤(cq (h.T.at_.map Prod.fst)).length)∧(aN sv=true)∧(ws=((cq (h.T.at_.map Prod.fst)).take k).map (fun n=>(bG h.T.at_ n).getD 0))∧(ws.length=k)) (fun (k,sv,ws)=>[(14,i64 k),(3,sv)]) (fun (k,sv,ws)=>dQ 24 w64 0 (sv,ws)::dQ 3 i64 0 (.slice qn (cq (h.T.at_.map Prod.fst)).length cn,(cq (h.T.at_.map Prod.fst)))::eu bt h.T::bX bh bs bt x h::Fr) (fun (k,sv,ws)=>(cq (h.T.at_.map Prod.fst)).length - k) (0,.slice none 0 0,[]) (⟨Nat.zero_le _,rfl,rfl,rfl⟩) (fun a w st=>st.to ⟨rfl,rfl,trivial⟩ (fun hh=>(hh.pk [2]))) ?_))))
 rintro⟨k,sv,ws⟩ ⟨hk0,hsv,hws,hwl⟩
 try simp only at hk0 hsv hws hwl ⊢
 refine cE (σ':=[(14,i64 k),(3,sv),(13,_),(12,_),(2,_),(0,_)]) (aG aa) (ac (ab (kPv (am aa aa aa) aa (ad (ac ?_)))))
 refine aV aa (fun h15=> ?_) (fun h15=> ?_)
 ·have hk:k<(cq (h.T.at_.map Prod.fst)).length:=by simpa using h15
  obtain⟨bN,oN,rfl⟩:=hqi k hk
  have hpb:=hW.pb (cq (h.T.at_.map Prod.fst))[k]
  refine aw (ac (aI (ac (ab (kPv (cC runUnderlying59 sizeOf3 aa aa (by omega) (by omega)) aa ?_)))))
  refine kPv (cf (v:=i64 (cq (h.T.at_.map Prod.fst))[k]) isAgg3 (cP 1 aa) aa (by rw[Int.toNat_natCast,List.getElem?_map,List.getElem?_eq_getElem hk];rfl)) aa ?_
  refine kPa aa aa (ad (ac (ab (kPf eP isAgg120 aa aa aa aa (kPm aa aa (ap aa (ar call142 aa) (bF (q:=eu) (fun Fr=>mK _ Fr bt h.T (cq (h.T.at_.map Prod.fst))[k])) .free aa aa ?_))))))
  refine kPm aa aa (kPv (az aa aa) aa (kPv (az aa aa) aa (kPa aa aa (kPa aa aa (ad (aj [6,14,3,13,12,2,0] rfl (ab (kPm aa aa (kPm aa aa (kPv (cR runUnderlying3 runUnderlying24 aa (fk (by omega))) aa (kPb (gA runUnderlying22 sizeOf24 zeroValue24 aa aa aa) aa fun b30=> ?_)))))))))))
  refine aM [1,0] (cX aa (fC aa aa runUnderlying22 runUnderlying22 ⟨_,rfl⟩ sizeOf24 zeroValue24 aa (fun _=>rfl) gh aa aa (by omega)) .free aa aa ?_)
  rintro sv9 _ ⟨hsv9,rfl⟩
  refine kPa aa aa (ad (ab (kPv (aP aa aa) aa (kPm aa aa (ad (aj [14,3,13,12,2,0] rfl ?_))))))
  exact fun a w st_=>⟨(k+1,sv9,ws++[(bG h.T.at_ (cq (h.T.at_.map Prod.fst))[k]).getD 0]),⟨by omega,hsv9,by rw[List.take_succ_eq_append_getElem hk,List.map_append, ←hws];rfl,by simp[hwl]⟩,by omega,st_.to (aG aa) (fun hh=>hh)⟩
 ·have h9:¬ k<(cq (h.T.at_.map Prod.fst)).length:=by simpa using h15
  have hk:k=(cq (h.T.at_.map Prod.fst)).length:=by omega
  have hres:ws=h.words:=by rw[hws,hk,List.take_length];rfl
  refine bJ (ac (ab (kPm aa aa (kPa aa aa (ad (aj [2] rfl (au ?_)))))))
  exact aq results90 aa (fun w hw=>⟨_,⟨hsv,rfl⟩,by rw[←hres];exact((hw.dp [1]).pk [0,1])⟩)
theorem Bm(B:World)(Fr:List HP)(bh bs bt x:Nat)(h:HpS)(s:Dev)(hW:db h s):
 ∀ w,Holds B (bX bh bs bt x h::eu bt h.T::ax h.bd s::Fr) w→Calls Tryz.prog 86 [ptr bh].toArray w (Ret B (fun rv H'=>aN rv=true∧H'=da 0 (rv,h.words++(h.blk s).rts)::bX bh bs bt x h::eu bt h.T::ax h.bd s::Fr) (fun _ _=>False)):=by
 refine ak func86 aa ntmps86 aa ?_
 have hc:=hW.c
 have hu:=hW.u
 have hbk:=dB (s:=s) hc hu
 have hbl:(h.blk s).rts.length≤16:=fc (s:=s) hc
 have hwl:h.words.length≤800000:=by have:=hW.tl;simp[HpS.words,cq];exact this
 refine ac (ab (kPa aa aa (ad (ac (ab (kPm aa aa (aE aa (ar call90 aa) (mI B _ bh bs bt x h s hW) .free aa aa ?_)))))))
 rintro wv _ ⟨hwv,rfl⟩
 refine kPm aa aa (aM [1,2] (aE aa (ar call73 aa) (eX B _ bh bs bt x h s hW.c hW.u) .free aa aa ?_))
 rintro _ _ ⟨sv,hsv,rfl,rfl⟩
 refine cy fun qb cb hqb hqbi=> ?_
 subst hqb
 refine kPv (ie runUnderlying125 (t:=22) (off:=2) aa isAgg22 aa aa) aa (aM [3] (cX aa (dt (yv:=(.slice qb (h.blk s).rts.length cb)) (ys:=(h.blk s).rts) aa aa runUnderlying22 runUnderlying22 ⟨_,rfl⟩ sizeOf24 zeroValue24 aa (fun _=>rfl) gh aa aa (cP (1 - 1) aa) (by omega)) .free aa aa ?_))
 rintro nv _ ⟨hnv,rfl⟩
 refine kPa aa aa (ad (aj [2] rfl (au ?_)))
 exact aq results86 aa (fun w hw=>⟨_,⟨hnv,rfl⟩,((hw.dp [1]).pk [0,0,1])⟩)
section
variable {B:World} {Fr:List HP} {bh bs bt x:Nat} {h:HpS} {w:World}
theorem jX(ho:h.o=true)(hh:Holds B (bX bh bs bt x h::gS bs h.S::eu bt h.T::vx x h.X::Fr) w):Holds B (bZ bh h::Fr) w:=ce (bs:=bs) (bt:=bt) (x:=x) (by rw[ho];exact hh)
theorem nw(ho:h.o=false)(hh:Holds B (bX bh bs bt x h::dV bs h.S::eu bt h.T::vx x h.X::Fr) w):Holds B (bZ bh h::Fr) w:=ce (bs:=bs) (bt:=bt) (x:=x) (by rw[ho];exact hh)
end
theorem fL(B:World)(Fr:List HP)(bs:Nat)(S:bD)(o:Bool):∀ w,Holds B (k7 o bs S::Fr) w→Calls Tryz.prog 72 [ptr bs].toArray w (aZ B (k7 o bs S::Fr) (.bool o)):=by
 cases o
 ·exact my B Fr bs S
 ·exact xe B Fr bs S
theorem HpS.obj_w{h:HpS}{s:Dev}(hW:db h s){n:Int}(e:(h.obj s n).2=0):k8 (h.obj s n).1:=by
 unfold HpS.obj at e ⊢
 split at e
 ·rename_i hm
  rw[if_pos hm]
  exact hZ hW.c (dB hW.c hW.u) e
 ·cases e
theorem HpS.plc_b{h:HpS}{s:Dev}(hW:db h s)(n:Int):0≤(h.plc n).1∧(h.plc n).1≤1000000:=by
 unfold HpS.plc
 split
 ·exact hW.pb n
 ·exact⟨by decide,by decide⟩
def HpS.commit(h:HpS)(s:Dev):Out (Int×HpS):=if h.o=true then (h.S.commit s).then fun S s=> .ok (0,{h with o:=false,S:=S}) s else .ok (2,h) s
def HpS.read(h:HpS)(s:Dev)(n i:Int):Int×Int:=if (h.obj s n).2≠0 then (0,(h.obj s n).2) else s.objRead (h.obj s n).1 i
def HpS.ref(h:HpS)(s:Dev)(n i:Int):(Int×Int)×HpS:=if (h.obj s n).2≠0 then ((0,(h.obj s n).2),h) else (((h.T.take (s.objRef (h.obj s n).1 i).1).1,(s.objRef (h.obj s n).1 i).2),{h with T:=(h.T.take (s.objRef (h.obj s n).1 i).1).2})
def HpS.root(h:HpS)(s:Dev)(i:Int):(Int×Int)×HpS:=if i<0∨h.c.roots≤i then ((0,1),h) else (((h.T.take (IntKind.i64.wrap (s.load (h.c.root i)))).1,0),{h with T:=(h.T.take (IntKind.i64.wrap (s.load (h.c.root i)))).2})
def HpS.alloc(h:HpS)(s:Dev)(w r:Int):Out ((Int×Int)×HpS):=if h.o=true then (cY fy h.c w r s h.S).then fun x s=>if x.1.2≠0 then .ok ((0,x.1.2),{h with S:=x.2}) s else .ok (((h.T.take x.1.1).1,0),{h with S:=x.2,T:=(h.T.take x.1.1).2}) s else .ok ((0,2),h) s
def HpS.write(h:HpS)(s:Dev)(n i v:Int):Out (Int×HpS):=if h.o=true then (if (h.obj s n).2≠0 then .ok ((h.obj s n).2,h) s else (hO fy (h.obj s n).1 i false v s h.S).then fun x s=> .ok (x.1,{h with S:=x.2}) s) else .ok (2,h) s
def HpS.point(h:HpS)(s:Dev)(n i to_:Int):Out (Int×HpS):=if h.o=true then (if (h.obj s n).2≠0 then .ok ((h.obj s n).2,h) s else if (h.plc to_).2≠0 then .ok ((h.plc to_).2,h) s else (hO fy (h.obj s n).1 i true (h.plc to_).1 s h.S).then fun x s=> .ok (x.1,{h with S:=x.2}) s) else .ok (2,h) s
def HpS.setRoot(h:HpS)(s:Dev)(i to_:Int):Out (Int×HpS):=if h.o=true then (if i<0∨h.c.roots≤i then .ok (1,h) s else if (h.plc to_).2≠0 then .ok ((h.plc to_).2,h) s else (h.S.store s (h.c.root i) (h.plc to_).1).then fun x s=> .ok (x.1,{h with S:=x.2}) s) else .ok (2,h) s
theorem A4(B:World)(Fr:List HP)(bd:Nat)(s:Dev)(o:dq)(ho:k8 o)(i:Int):
 ∀ w,Holds B (ax bd s::Fr) w→Calls Tryz.prog 93 [gL o,ptr bd,i64 i].toArray w (aZ B (ax bd s::Fr) (.tuple #[i64 (s.objRef o i).1,i64 (s.objRef o i).2])):=by
 refine ak func93 aa ntmps93 aa (ac (ab (kPb (aY aa) aa fun b3=>(kPa aa aa (kPa aa aa (ad (ac (ab (kPv (ah isAgg134 sizeOf134 aa aa) aa ?_)))))))))
 refine kPm aa aa (ap aa (ar call144 aa) (l4 _ _ o ho i _) .free aa aa ?_)
 refine kPm aa aa (kPv (az aa aa) aa (kPv (az aa aa) aa (kPa aa aa (kPa aa aa (ad (aj [9,8,7,6,1] rfl (ac (ac (ab (kPm aa aa (kPv (am aa aa aa) aa ?_)))))))))))
 refine ad ?_
 refine aV aa (fun h17=> ?_) (fun h17=> ?_)
 ·have hk:(bK o i true).2≠0:=by simpa using h17
  have hres:s.objRef o i=(0,(bK o i true).2):=by unfold Dev.objRef;rw[if_pos hk]
  refine ac (ab (kPm aa aa (kPa aa aa (kPa aa aa (ad (au ?_))))))
  exact bz results93 aa aa (fun w hh=>⟨by rw[hres]<;>rfl,hh.tail⟩)
 ·have hk:¬ (bK o i true).2≠0:=by simpa using h17
  have hres:s.objRef o i=(IntKind.i64.wrap (s.load (bK o i true).1),0):=by unfold Dev.objRef;rw[if_neg hk]
  refine aw (ac (ab (kPm aa aa (kPm aa aa (ap aa (ar call101 aa) (bF (q:=ax) (fun Fr=>ck _ Fr _ _ _)) .free aa aa ?_)))))
  refine kPv (cR runUnderlying24 runUnderlying3 aa aa) aa (kPa aa aa (kPa aa aa (ad (aj [7,6] rfl (au ?_)))))
  exact bz results93 aa aa (fun w hh=>⟨by rw[hres]<;>rfl,hh.tail⟩)
theorem zB(B:World)(Fr:List HP)(bh:Nat)(h:HpS)(s:Dev)(hW:db h s)(n:Int):
 ∀ w,Holds B (bZ bh h::ax h.bd s::Fr) w→Calls Tryz.prog 102 [ptr bh,i64 n].toArray w (aZ B (bZ bh h::ax h.bd s::Fr) (.tuple #[.agg #[i64 (h.obj s n).1.1,i64 (h.obj s n).1.2.1],i64 (h.obj s n).2])):=by
 refine ak func102 aa ntmps102 aa (dO fun bs bt x=>(ac (ab (kPb (aD zeroValue63 aa) aa fun b4=>(kPa aa aa (ad (ac (ab (kPm aa aa (kPm aa aa (aM [1,2,3] ?_)))))))))))
 refine ap aa (ar call79 aa) (ir B _ bh bs bt x h s hW n) .free aa aa ?_
 refine kPm aa aa (kPv (az aa aa) aa (kPv (az aa aa) aa (kPb (aD zeroValue134 aa) aa fun b6=>(kPs (aA (vs:=_) sizeOf134 aa aa aa aa aa) aa (kPa aa aa (ad (aj [7,6,5,4] rfl (ac (ab (kPv (aC (m:=_) eN aa aa) aa (kPv (ah isAgg63 sizeOf63 aa aa) aa ?_)))))))))))
 refine kPm aa aa (kPs (aA (vs:=_) sizeOf63 aa aa aa aa aa) aa (kPa aa aa (ad (au ?_))))
 exact fY results102 (.cellA aa isAgg63 sizeOf63 aa aa) (.tmp aa) (fun w hw=>⟨rfl,ce (bs:=bs) (bt:=bt) (x:=x) ((hw.dp [0,3]).pk [0,2,0,1])⟩)
theorem zz(B:World)(Fr:List HP)(bh:Nat)(h:HpS)(s:Dev)(hW:db h s)(n i:Int):
 ∀ w,Holds B (bZ bh h::ax h.bd s::Fr) w→Calls Tryz.prog 40 [ptr bh,i64 n,i64 i].toArray w (aZ B (bZ bh h::ax h.bd s::Fr) (.tuple #[w64 (h.read s n i).1,i64 (h.read s n i).2])):=by
 refine ak func40 aa ntmps40 aa (dO fun bs bt x=>(ac (ab (kPa aa aa (kPa aa aa (ad (ac (ab (kPm aa aa (kPm aa aa (aM [0,1,2] ?_)))))))))))
 refine ap aa (ar call79 aa) (ir B _ bh bs bt x h s hW n) .free aa aa ?_
 refine kPm aa aa (kPv (az aa aa) aa (kPv (az aa aa) aa (kPb (aD zeroValue134 aa) aa fun b8=>(kPs (aA (vs:=_) sizeOf134 aa aa aa aa aa) aa (kPa aa aa (ad (aj [9,8,7,6,0,2] rfl (ac (ac (ab (kPm aa aa ?_)))))))))))
 refine kPv (am aa aa aa) aa (ad ?_)
 refine aV aa (fun h17=> ?_) (fun h17=> ?_)
 ·have hk:(h.obj s n).2≠0:=by simpa using h17
  refine ac (ab (kPm aa aa (kPa aa aa (kPa aa aa (ad (au ?_))))))
  exact bz results40 aa aa (fun w hw=>⟨by unfold HpS.read;rw[if_pos hk];rfl,ce (bs:=bs) (bt:=bt) (x:=x) ((hw.dp [0]).pk [0,2,0,1])⟩)
 ·have hk:¬ (h.obj s n).2≠0:=by simpa using h17
  have how:=HpS.obj_w hW (n:=n) (by omega)
  refine aw (ac (cN Tryz.mixed (by kernel_rfl) (by kernel_rfl) ?_))
  refine kQv (ah isAgg134 sizeOf134 aa aa) aa ?_
  refine kQm aa aa (kQv (aF aa) aa (kQv (aC (m:=_) eQ aa aa) aa (kQv (ag isAgg53 aa aa) aa (kQm aa aa (bj aa (ar call99 aa) (bF (q:=ax) (fun Fr=>oR _ Fr h.bd s _ how i)) .free aa ?_)))))
  refine kQv (az aa aa) aa (kQv (az aa aa) aa (kQa aa aa (kQa aa aa (bM (aj [7,6] rfl (au ?_))))))
  exact bz results40 aa aa (fun w hw=>⟨by unfold HpS.read;rw[if_neg hk];rfl,ce (bs:=bs) (bt:=bt) (x:=x) ((hw.dp [0]).pk [0,2,0,1])⟩)
theorem pd(B:World)(Fr:List HP)(bh:Nat)(h:HpS)(s:Dev)(hW:db h s):
 ∀ w,Holds B (bZ bh h::ax h.bd s::Fr) w→Calls Tryz.prog 52 [ptr bh].toArray w (aZ B (bZ bh h::ax h.bd s::Fr) (i64 (s.check h.c))):=by
 refine ak func52 aa ntmps52 aa (dO fun bs bt x=>(ac (ab (kPa aa aa (ad (ac (cN Tryz.mixed (by kernel_rfl) (by kernel_rfl) ?_)))))))
 refine kQm aa aa (kQv (aF aa) aa (kQv (aC (m:=_) eQ aa aa) aa (kQv (ag isAgg53 aa aa) aa (kQm aa aa (kQv (aF aa) aa (kQv (aC (m:=_) c6 aa aa) aa (kQv (ah isAgg39 sizeOf39 aa aa) aa ?_)))))))
 refine bj aa (ar call114 aa) (bF (q:=ax) (fun Fr=>kY _ Fr h.bd s h.c hW.c hW.u)) .free aa ?_
 refine kQa aa aa (bM (aj [2] rfl (au ?_)))
 exact aq results52 aa (fun w hw=>⟨rfl,ce (bs:=bs) (bt:=bt) (x:=x) hw⟩)
theorem xO(B:World)(Fr:List HP)(bh:Nat)(h:HpS)(s:Dev)(hW:db h s)(n:Int):
 ∀ w,Holds B (bZ bh h::ax h.bd s::Fr) w→Calls Tryz.prog 34 [ptr bh,i64 n].toArray w (Ret B (fun rv H'=>rv=i64 (if (bG h.T.at_ n).isSome=true then 0 else 6)∧H'=bZ bh {h with T:=h.T.drop n}::ax h.bd s::Fr) (fun _ _=>False)):=by
 refine ak func34 aa ntmps34 aa (dO fun bs bt x=>(ac (ab (kPa aa aa (ad (ac (ac (ab (kPf eP isAgg120 aa aa aa aa (kPm aa aa (aM [2] ?_)))))))))))
 refine de aa (ar call84 aa) (zD B _ bt h.T n) .free aa aa ?_
 refine kPv (bu aa) aa (ad (aj [11,4] rfl ?_))
 refine aV aa (fun h11=> ?_) (fun h11=> ?_)
 ·have hk:¬ (bG h.T.at_ n).isSome=true:=by simpa using h11
  refine ac (ab (kPa aa aa (ad (au ?_))))
  exact aq results34 aa (fun w hw=>⟨_,⟨by rw[if_neg hk],rfl⟩,ce (h:={h with T:=h.T.drop n}) (bs:=bs) (bt:=bt) (x:=x) (hw.pk [1,1])⟩)
 ·have hk:(bG h.T.at_ n).isSome=true:=by simpa using h11
  refine aw (ac (ab (kPa aa aa (ad (au ?_)))))
  exact aq results34 aa (fun w hw=>⟨_,⟨by rw[if_pos hk],rfl⟩,ce (h:={h with T:=h.T.drop n}) (bs:=bs) (bt:=bt) (x:=x) (hw.pk [1,1])⟩)
theorem Bi(B:World)(Fr:List HP)(bh:Nat)(h:HpS)(s:Dev)(hW:db h s)(n i:Int):
 ∀ w,Holds B (bZ bh h::ax h.bd s::Fr) w→Calls Tryz.prog 37 [ptr bh,i64 n,i64 i].toArray w (Ret B (fun rv H'=>rv= .tuple #[i64 (h.ref s n i).1.1,i64 (h.ref s n i).1.2]∧H'=bZ bh (h.ref s n i).2::ax h.bd s::Fr) (fun _ _=>False)):=by
 refine ak func37 aa ntmps37 aa (dO fun bs bt x=>(ac (ab (kPa aa aa (kPa aa aa (ad (ac (ab (kPm aa aa (kPm aa aa (aM [0,1,2] ?_)))))))))))
 refine ap aa (ar call79 aa) (ir B _ bh bs bt x h s hW n) .free aa aa ?_
 refine kPm aa aa (kPv (az aa aa) aa (kPv (az aa aa) aa (kPb (aD zeroValue134 aa) aa fun b8=>(kPs (aA (vs:=_) sizeOf134 aa aa aa aa aa) aa (kPa aa aa (ad (aj [9,8,7,6,0,2] rfl (ac (ac (ab (kPm aa aa ?_)))))))))))
 refine kPv (am aa aa aa) aa (ad ?_)
 refine aV aa (fun h18=> ?_) (fun h18=> ?_)
 ·have hk:(h.obj s n).2≠0:=by simpa using h18
  refine ac (ab (kPm aa aa (kPa aa aa (kPa aa aa (ad (au ?_))))))
  exact bz results37 aa aa (fun w hw=>⟨_,⟨by unfold HpS.ref;rw[if_pos hk];rfl,rfl⟩,by unfold HpS.ref;rw[if_pos hk];exact ce (bs:=bs) (bt:=bt) (x:=x) ((hw.dp [0]).pk [0,2,0,1])⟩)
 ·have hk:¬ (h.obj s n).2≠0:=by simpa using h18
  have how:=HpS.obj_w hW (n:=n) (by omega)
  refine aw (ac (cN Tryz.mixed (by kernel_rfl) (by kernel_rfl) ?_))
  refine kQv (ah isAgg134 sizeOf134 aa aa) aa ?_
  refine kQm aa aa (kQv (aF aa) aa (kQv (aC (m:=_) eQ aa aa) aa (kQv (ag isAgg53 aa aa) aa (kQm aa aa (bj aa (ar call93 aa) (bF (q:=ax) (fun Fr=>A4 _ Fr h.bd s _ how i)) .free aa ?_)))))
  refine kQm aa aa (kQv (az aa aa) aa (kQv (az aa aa) aa (kQa aa aa (kQa aa aa (bM (aj [9,10,7,6,0] rfl (ac (ab (kPf eP isAgg120 aa aa aa aa (kPm aa aa (aM [2] ?_)))))))))))
  refine de aa (ar call78 aa) (ip B _ bt h.T (s.objRef (h.obj s n).1 i).1 hW.t1) .free aa aa ?_
  refine kPm aa aa (kPa aa aa (kPa aa aa (ad (aj [7,6] rfl (au ?_)))))
  exact bz results37 aa aa (fun w hw=>⟨_,⟨by unfold HpS.ref;rw[if_neg hk];rfl,rfl⟩,by unfold HpS.ref;rw[if_neg hk];exact ce (h:={h with T:=(h.T.take (s.objRef (h.obj s n).1 i).1).2}) (bs:=bs) (bt:=bt) (x:=x) ((hw.dp [1]).pk [1,2,0,1])⟩)
theorem zy(B:World)(Fr:List HP)(bh:Nat)(h:HpS)(s:Dev)(hW:db h s)(i:Int):
 ∀ w,Holds B (bZ bh h::ax h.bd s::Fr) w→Calls Tryz.prog 43 [ptr bh,i64 i].toArray w (Ret B (fun rv H'=>rv= .tuple #[i64 (h.root s i).1.1,i64 (h.root s i).1.2]∧H'=bZ bh (h.root s i).2::ax h.bd s::Fr) (fun _ _=>False)):=by
 refine ak func43 aa ntmps43 aa (dO fun bs bt x=>(ac (ab (kPa aa aa (kPa aa aa (ad (ac (ac (ab (kPm aa aa (kPv (am aa aa aa) aa ?_)))))))))))
 refine kPm aa aa ?_
 apply gJ (tp:=16) (t:=8) (σ1:=[(8,_),(5,_),(4,_),(0,_),(1,_)]) 8 rfl (aG rfl)
 ·intro hg1
  refine ao aa (al aa) (.on aa aa (ae hg1)) aa aa (ao aa (al aa) (.on aa aa (ae hg1)) aa aa (ao aa (aF aa) (.on aa aa (ae hg1)) aa aa (ao aa (aC (m:=_) c6 aa aa) (.on aa aa (ae hg1)) aa aa (ao aa (aC (m:=_) gc aa aa) (.on aa aa (ae hg1)) aa aa (ao aa (ag isAgg3 aa aa) (.on aa aa (ae hg1)) aa aa (ao aa (am aa aa aa) (.on aa aa (ae hg1)) aa aa (kPv (aJ aa hg1 aa) aa ?_)))))))
  exact bf aa (aG aa) (ga hg1)
 ·intro hg1
  refine ay aa (.on aa aa (ai hg1)) aa (ay aa (.on aa aa (ai hg1)) aa (ay aa (.on aa aa (ai hg1)) aa (ay aa (.on aa aa (ai hg1)) aa (ay aa (.on aa aa (ai hg1)) aa (ay aa (.on aa aa (ai hg1)) aa (ay aa (.on aa aa (ai hg1)) aa (kPv (aB aa hg1 aa) aa ?_)))))))
  exact bf aa (aG aa) (f9 hg1)
 refine ad ?_
 refine aV aa (fun h16=> ?_) (fun h16=> ?_)
 ·have hk:i<0∨h.c.roots≤i:=by have h9:=h16;simp at h9;omega
  refine ac (ab (kPa aa aa (kPa aa aa (ad (au ?_)))))
  exact bz results43 aa aa (fun w hw=>⟨_,⟨by unfold HpS.root;rw[if_pos hk],rfl⟩,by unfold HpS.root;rw[if_pos hk];exact ce (bs:=bs) (bt:=bt) (x:=x) hw⟩)
 ·have hk:¬ (i<0∨h.c.roots≤i):=by have h9:=h16;simp at h9;omega
  have hr2:=hW.c.r2
  refine aw (ac (cH 16 Tryz.mixed (by kernel_rfl) (by kernel_rfl) ?_))
  refine kQm aa aa (kQv (aF aa) aa (kQv (aC (m:=_) eP aa aa) aa (kQv (ag isAgg120 aa aa) aa (kQm aa aa (kQv (aF aa) aa (kQv (aC (m:=_) eQ aa aa) aa (kQv (ag isAgg53 aa aa) aa (kQm aa aa (kQv (aF aa) aa (kQv (aC (m:=_) c6 aa aa) aa (kQv (ah isAgg39 sizeOf39 aa aa) aa ?_)))))))))))
  refine kQm aa aa (bj aa (ar call82 aa) (jz _ _ h.c hW.c i (by omega) (by omega)) .free aa ?_)
  refine bj aa (ar call101 aa) (bF (q:=ax) (fun Fr=>ck _ Fr _ _ _)) .free aa ?_
  refine kQv (cR runUnderlying24 runUnderlying3 aa aa) aa (bM (aM [2] (de aa (ar call78 aa) (ip B _ bt h.T (IntKind.i64.wrap (s.load (h.c.root i))) hW.t1) .free aa aa ?_)))
  refine kPa aa aa (kPa aa aa (ad (aj [5,4] rfl (au ?_))))
  exact bz results43 aa aa (fun w hw=>⟨_,⟨by unfold HpS.root;rw[if_neg hk],rfl⟩,by unfold HpS.root;rw[if_neg hk];exact ce (h:={h with T:=(h.T.take (IntKind.i64.wrap (s.load (h.c.root i)))).2}) (bs:=bs) (bt:=bt) (x:=x) (hw.pk [1,1])⟩)
theorem db.ok{h:HpS}{s:Dev}(hW:db h s)(ho:h.o=true):U64 s∧s.n≤1000000∧lF h.S∧h.S.L.d=h.bd∧h.S.L.c=h.c:=⟨hW.u,hW.k.n,(hW.sw ho).1,hW.k.d,hW.k.c⟩
theorem qD(B:World)(Fr:List HP)(bh:Nat)(h:HpS)(s:Dev)(hW:db h s)(n i v:Int)(hv:0≤v∧v<18446744073709551616):
 ∀ w,Holds B (bZ bh h::ax h.bd s::Fr) w→Calls Tryz.prog 38 [ptr bh,i64 n,i64 i,w64 v].toArray w (Ret B (fun rv H'=>∃ a h' s',h.write s n i v= .ok (a,h') s'∧rv=i64 a∧H'=bZ bh h'::ax h.bd s'::Fr) (fun ch H'=>∃ s',h.write s n i v= .off s'∧ch=dh∧H'=ax h.bd s'::Fr)):=by
 refine ak func38 aa ntmps38 aa (dO fun bs bt x=>(ac (ab (kPa aa aa (ad (ac (ac (ab (kPf cO isAgg119 aa aa aa aa (ap aa (ar call72 aa) (bF (q:=k7 h.o) (fun Fr=>fL B Fr bs h.S h.o)) .free aa aa ?_))))))))))
 refine kPv (bu aa) aa (ad ?_)
 refine aV aa (fun h16=> ?_) (fun h16=> ?_)
 ·have ho:h.o=false:=by simpa using h16
  have hof:¬ h.o=true:=by rw[ho];decide
  refine ac (ab (kPa aa aa (ad (au ?_))))
  exact aq results38 aa (fun w hw=>⟨_,⟨2,h,s,by unfold HpS.write;rw[if_neg hof],rfl,rfl⟩,ce (bs:=bs) (bt:=bt) (x:=x) hw⟩)
 ·have ho:h.o=true:=by simpa using h16
  refine aM [1] (aK (H':=gS bs h.S::_) (fun w hh=>by rw[ho] at hh;exact hh) (aw (ac (ab (kPm aa aa (kPm aa aa (aM [1,1,2] (ap aa (ar call79 aa) (ir B _ bh bs bt x h s hW n) .free aa aa ?_))))))))
  refine kPm aa aa (kPv (az aa aa) aa (kPv (az aa aa) aa (kPb (aD zeroValue134 aa) aa fun b9=>(kPs (aA (vs:=_) sizeOf134 aa aa aa aa aa) aa (kPa aa aa (ad (aj [10,9,8,0,2,3] rfl (ac (ac (ab (kPm aa aa ?_)))))))))))
  refine kPv (am aa aa aa) aa (ad ?_)
  refine aV aa (fun h24=> ?_) (fun h24=> ?_)
  ·have hk:(h.obj s n).2≠0:=by simpa using h24
   refine ac (ab (kPm aa aa (kPa aa aa (ad (au ?_)))))
   exact aq results38 aa (fun w hw=>⟨_,⟨(h.obj s n).2,h,s,by unfold HpS.write;rw[if_pos ho,if_pos hk],rfl,rfl⟩,jX (bs:=bs) (bt:=bt) (x:=x) ho ((hw.dp [0]).pk [0,2,0,1])⟩)
  ·have hk:¬ (h.obj s n).2≠0:=by simpa using h24
   have how:=HpS.obj_w hW (n:=n) (by omega)
   refine aw (ac (aK (H':=row b9 [i64 (h.obj s n).1.1,i64 (h.obj s n).1.2.1,i64 (h.obj s n).1.2.2] 134::_) (fun w hh=>hh) (cH 8 Tryz.mixed (by kernel_rfl) (by kernel_rfl) ?_)))
   refine kQv (ah isAgg134 sizeOf134 aa aa) aa ?_
   refine kQm aa aa (kQm aa aa (kQm aa aa (kQv (aF aa) aa (kQv (aC (m:=_) cO aa aa) aa (kQv (ag isAgg119 aa aa) aa (kQv (c7 aa aa) aa (bM (aM [3,3] ?_))))))))
   refine aQ aa (ar call94 aa) (qh B _ _ _ h.bd bs bD (fun b S=>gS b S) _ _ (oh B h.bd bs h.c) (h.obj s n).1 how i v hv s h.S (hW.ok ho)) .free aa aa ?_ ?_
   rotate_left
   ·rintro _ _ ⟨s9,hm9,rfl,rfl⟩
    exact aX fun w hh=>⟨_,⟨s9,by unfold HpS.write;rw[if_pos ho,if_neg hk,show hO fy (h.obj s n).1 i false v s h.S= .off s9 from hm9];rfl,rfl,rfl⟩,hh.dp [1,1,1,1]⟩
   rintro _ _ ⟨a2,S2,s2,hm2,rfl,hok2,rfl⟩
   refine kPa aa aa (ad (aj [8] rfl (au ?_)))
   exact aq results38 aa (fun w hw=>⟨_,⟨a2,{h with S:=S2},s2,by unfold HpS.write;rw[if_pos ho,if_neg hk,show hO fy (h.obj s n).1 i false v s h.S= .ok (a2,S2) s2 from hm2];rfl,rfl,rfl⟩,jX (h:={h with S:=S2,T:=h.T}) (bs:=bs) (bt:=bt) (x:=x) ho ((hw.dp [2]).pk [2,1,1,1])⟩)
theorem xN(B:World)(Fr:List HP)(bh:Nat)(h:HpS)(s:Dev)(hW:db h s)(n i to_:Int):
 ∀ w,Holds B (bZ bh h::ax h.bd s::Fr) w→Calls Tryz.prog 31 [ptr bh,i64 n,i64 i,i64 to_].toArray w (Ret B (fun rv H'=>∃ a h' s',h.point s n i to_= .ok (a,h') s'∧rv=i64 a∧H'=bZ bh h'::ax h.bd s'::Fr) (fun ch H'=>∃ s',h.point s n i to_= .off s'∧ch=dh∧H'=ax h.bd s'::Fr)):=by
 refine ak func31 aa ntmps31 aa (dO fun bs bt x=>(ac (ab (kPa aa aa (ad (ac (ac (ab (kPf cO isAgg119 aa aa aa aa (ap aa (ar call72 aa) (bF (q:=k7 h.o) (fun Fr=>fL B Fr bs h.S h.o)) .free aa aa ?_))))))))))
 refine kPv (bu aa) aa (ad ?_)
 refine aV aa (fun h17=> ?_) (fun h17=> ?_)
 ·have ho:h.o=false:=by simpa using h17
  have hof:¬ h.o=true:=by rw[ho];decide
  refine ac (ab (kPa aa aa (ad (au ?_))))
  exact aq results31 aa (fun w hw=>⟨_,⟨2,h,s,by unfold HpS.point;rw[if_neg hof],rfl,rfl⟩,ce (bs:=bs) (bt:=bt) (x:=x) hw⟩)
 ·have ho:h.o=true:=by simpa using h17
  refine aM [1] (aK (H':=gS bs h.S::_) (fun w hh=>by rw[ho] at hh;exact hh) (aw (ac (ab (kPm aa aa (kPm aa aa (aM [1,1,2] (ap aa (ar call79 aa) (ir B _ bh bs bt x h s hW n) .free aa aa ?_))))))))
  refine kPm aa aa (kPv (az aa aa) aa (kPv (az aa aa) aa (kPb (aD zeroValue134 aa) aa fun b9=>(kPs (aA (vs:=_) sizeOf134 aa aa aa aa aa) aa (kPa aa aa (ad (aj [10,9,8,0,2,3] rfl (ac (ac (ab (kPm aa aa ?_)))))))))))
  refine kPv (am aa aa aa) aa (ad ?_)
  refine aV aa (fun h25=> ?_) (fun h25=> ?_)
  ·have hk:(h.obj s n).2≠0:=by simpa using h25
   refine ac (ab (kPm aa aa (kPa aa aa (ad (au ?_)))))
   exact aq results31 aa (fun w hw=>⟨_,⟨(h.obj s n).2,h,s,by unfold HpS.point;rw[if_pos ho,if_pos hk],rfl,rfl⟩,jX (bs:=bs) (bt:=bt) (x:=x) ho ((hw.dp [0]).pk [0,2,0,1])⟩)
  ·have hk:¬ (h.obj s n).2≠0:=by simpa using h25
   have how:=HpS.obj_w hW (n:=n) (by omega)
   refine aw (ac (ab (kPm aa aa (kPm aa aa (aM [1,1] (ap aa (ar call80 aa) (wi B _ bh bs bt x h s to_) .free aa aa ?_))))))
   refine kPm aa aa (kPv (az aa aa) aa (kPv (az aa aa) aa (kPa aa aa (kPa aa aa (ad (aj [10,11,9,8,0,2] rfl (ac (ac (ab (kPm aa aa (kPv (am aa aa aa) aa ?_)))))))))))
   refine ad ?_
   refine aV aa (fun h34=> ?_) (fun h34=> ?_)
   ·have hp:(h.plc to_).2≠0:=by simpa using h34
    refine ac (ab (kPm aa aa (kPa aa aa (ad (au ?_)))))
    exact aq results31 aa (fun w hw=>⟨_,⟨(h.plc to_).2,h,s,by unfold HpS.point;rw[if_pos ho,if_neg hk,if_pos hp],rfl,rfl⟩,jX (bs:=bs) (bt:=bt) (x:=x) ho ((hw.dp [2]).pk [0,2,0,1])⟩)
   ·have hp:¬ (h.plc to_).2≠0:=by simpa using h34
    have hpb:=HpS.plc_b hW to_
    refine aw (ac (aM [2] (aK (H':=row b9 [i64 (h.obj s n).1.1,i64 (h.obj s n).1.2.1,i64 (h.obj s n).1.2.2] 134::_) (fun w hh=>hh) (cH 8 Tryz.mixed (by kernel_rfl) (by kernel_rfl) ?_))))
    refine kQv (ah isAgg134 sizeOf134 aa aa) aa ?_
    refine kQm aa aa (kQm aa aa (kQm aa aa (kQv (aF aa) aa (kQv (aC (m:=_) cO aa aa) aa (kQv (ag isAgg119 aa aa) aa (kQv (c7 aa aa) aa (bM (aM [3,3] ?_))))))))
    refine aQ aa (ar call81 aa) (qi B _ _ _ h.bd bs bD (fun b S=>gS b S) _ _ (oh B h.bd bs h.c) (h.obj s n).1 how i (h.plc to_).1 (by omega) s h.S (hW.ok ho)) .free aa aa ?_ ?_
    rotate_left
    ·rintro _ _ ⟨s9,hm9,rfl,rfl⟩
     exact aX fun w hh=>⟨_,⟨s9,by unfold HpS.point;rw[if_pos ho,if_neg hk,if_neg hp,show hO fy (h.obj s n).1 i true (h.plc to_).1 s h.S= .off s9 from hm9];rfl,rfl,rfl⟩,hh.dp [1,1,1,1]⟩
    rintro _ _ ⟨a2,S2,s2,hm2,rfl,hok2,rfl⟩
    refine kPa aa aa (ad (aj [8] rfl (au ?_)))
    exact aq results31 aa (fun w hw=>⟨_,⟨a2,{h with S:=S2},s2,by unfold HpS.point;rw[if_pos ho,if_neg hk,if_neg hp,show hO fy (h.obj s n).1 i true (h.plc to_).1 s h.S= .ok (a2,S2) s2 from hm2];rfl,rfl,rfl⟩,jX (h:={h with S:=S2,T:=h.T}) (bs:=bs) (bt:=bt) (x:=x) ho ((hw.dp [2]).pk [2,1,1,1])⟩)
theorem Bh(B:World)(Fr:List HP)(bh:Nat)(h:HpS)(s:Dev)(hW:db h s)(i to_:Int):
 ∀ w,Holds B (bZ bh h::ax h.bd s::Fr) w→Calls Tryz.prog 32 [ptr bh,i64 i,i64 to_].toArray w (Ret B (fun rv H'=>∃ a h' s',h.setRoot s i to_= .ok (a,h') s'∧rv=i64 a∧H'=bZ bh h'::ax h.bd s'::Fr) (fun ch H'=>∃ s',h.setRoot s i to_= .off s'∧ch=dh∧H'=ax h.bd s'::Fr)):=by
 refine ak func32 aa ntmps32 aa (dO fun bs bt x=>(ac (ab (kPa aa aa (ad (ac (aI (ac (ab (kPf cO isAgg119 aa aa aa aa (ap aa (ar call72 aa) (bF (q:=k7 h.o) (fun Fr=>fL B Fr bs h.S h.o)) .free aa aa ?_)))))))))))
 refine kPv (bu aa) aa (kPa aa aa (ad ?_))
 refine aV aa (fun h9=> ?_) (fun h9=> ?_)
 ·have ho:h.o=false:=by simpa using h9
  have hof:¬ h.o=true:=by rw[ho];decide
  refine ac (ab (kPa aa aa (ad (aj [6,0,1,2] rfl (au ?_)))))
  exact aq results32 aa (fun w hw=>⟨_,⟨2,h,s,by unfold HpS.setRoot;rw[if_neg hof],rfl,rfl⟩,ce (bs:=bs) (bt:=bt) (x:=x) hw⟩)
 ·have ho:h.o=true:=by simpa using h9
  refine aM [1] (aK (H':=gS bs h.S::_) (fun w hh=>by rw[ho] at hh;exact hh) (ac (ab (kPm aa aa (kPv (am aa aa aa) aa (kPm aa aa ?_))))))
  apply gJ (tp:=27) (t:=19) (σ1:=[(19,_),(6,_),(0,_),(1,_),(2,_)]) 8 rfl (aG rfl)
  ·intro hg1
   refine ao aa (al aa) (.on aa aa (ae hg1)) aa aa (ao aa (al aa) (.on aa aa (ae hg1)) aa aa (ao aa (aF aa) (.on aa aa (ae hg1)) aa aa (ao aa (aC (m:=_) c6 aa aa) (.on aa aa (ae hg1)) aa aa (ao aa (aC (m:=_) gc aa aa) (.on aa aa (ae hg1)) aa aa (ao aa (ag isAgg3 aa aa) (.on aa aa (ae hg1)) aa aa (ao aa (am aa aa aa) (.on aa aa (ae hg1)) aa aa (kPv (aJ aa hg1 aa) aa ?_)))))))
   exact bf aa (aG aa) (ga hg1)
  ·intro hg1
   refine ay aa (.on aa aa (ai hg1)) aa (ay aa (.on aa aa (ai hg1)) aa (ay aa (.on aa aa (ai hg1)) aa (ay aa (.on aa aa (ai hg1)) aa (ay aa (.on aa aa (ai hg1)) aa (ay aa (.on aa aa (ai hg1)) aa (ay aa (.on aa aa (ai hg1)) aa (kPv (aB aa hg1 aa) aa ?_)))))))
   exact bf aa (aG aa) (f9 hg1)
  refine kPa aa aa (ad ?_)
  refine aV aa (fun h16=> ?_) (fun h16=> ?_)
  ·have hk:i<0∨h.c.roots≤i:=by have h9:=h16;simp at h9;omega
   refine ac (ab (kPa aa aa (ad (au ?_))))
   exact aq results32 aa (fun w hw=>⟨_,⟨1,h,s,by unfold HpS.setRoot;rw[if_pos ho,if_pos hk],rfl,rfl⟩,jX (bs:=bs) (bt:=bt) (x:=x) ho (hw.pk [1])⟩)
  ·have hk:¬ (i<0∨h.c.roots≤i):=by have h9:=h16;simp at h9;omega
   have hr2:=hW.c.r2
   refine aw (ac (ab (kPm aa aa (kPm aa aa (aM [1,1] (ap aa (ar call80 aa) (wi B _ bh bs bt x h s to_) .free aa aa ?_))))))
   refine kPm aa aa (kPv (az aa aa) aa (kPv (az aa aa) aa (kPa aa aa (kPa aa aa (ad (aj [8,7,6,0,1] rfl (ac (ac (ab (kPm aa aa (kPv (am aa aa aa) aa ?_)))))))))))
   refine ad ?_
   refine aV aa (fun h35=> ?_) (fun h35=> ?_)
   ·have hp:(h.plc to_).2≠0:=by simpa using h35
    refine ac (ab (kPm aa aa (kPa aa aa (ad (au ?_)))))
    exact aq results32 aa (fun w hw=>⟨_,⟨(h.plc to_).2,h,s,by unfold HpS.setRoot;rw[if_pos ho,if_neg hk,if_pos hp],rfl,rfl⟩,jX (bs:=bs) (bt:=bt) (x:=x) ho (hw.pk [0,1])⟩)
   ·have hp:¬ (h.plc to_).2≠0:=by simpa using h35
    have hpb:=HpS.plc_b hW to_
    refine aw (ac (cH 12 Tryz.mixed (by kernel_rfl) (by kernel_rfl) ?_))
    refine kQm aa aa (kQv (aF aa) aa (kQv (aC (m:=_) cO aa aa) aa (kQv (ag isAgg119 aa aa) aa (kQm aa aa (kQv (aF aa) aa (kQv (aC (m:=_) c6 aa aa) aa (kQv (ah isAgg39 sizeOf39 aa aa) aa ?_)))))))
    refine kQm aa aa (bj aa (ar call82 aa) (jz _ _ h.c hW.c i (by omega) (by omega)) .free aa ?_)
    refine kQm aa aa (kQv (cR runUnderlying3 runUnderlying24 aa (fk (by omega))) aa (bM (aM [4,2] ?_)))
    refine aQ aa (ar call77 aa) ((oh B h.bd bs h.c).says _ (h.c.root i) (h.plc to_).1 s h.S (hW.ok ho)) .free aa aa ?_ ?_
    rotate_left
    ·rintro _ _ ⟨s9,hm9,rfl,rfl⟩
     exact aX fun w hh=>⟨_,⟨s9,by unfold HpS.setRoot;rw[if_pos ho,if_neg hk,if_neg hp,show h.S.store s (h.c.root i) (h.plc to_).1= .off s9 from hm9];rfl,rfl,rfl⟩,hh.dp [1,1,1]⟩
    rintro _ _ ⟨a2,S2,s2,hm2,rfl,rfl⟩
    refine kPa aa aa (ad (aj [6] rfl (au ?_)))
    exact aq results32 aa (fun w hw=>⟨_,⟨a2,{h with S:=S2},s2,by unfold HpS.setRoot;rw[if_pos ho,if_neg hk,if_neg hp,show h.S.store s (h.c.root i) (h.plc to_).1= .ok (a2,S2) s2 from hm2];rfl,rfl,rfl⟩,jX (h:={h with S:=S2,T:=h.T}) (bs:=bs) (bt:=bt) (x:=x) ho (hw.pk [2,1,1,1])⟩)
theorem pf(B:World)(Fr:List HP)(bh:Nat)(h:HpS)(s:Dev)(hW:db h s)(wd rf:Int):
 ∀ w,Holds B (bZ bh h::ax h.bd s::Fr) w→Calls Tryz.prog 30 [ptr bh,.agg #[i64 wd,i64 rf]].toArray w (Ret B (fun rv H'=>∃ a h' s',h.alloc s wd rf= .ok (a,h') s'∧rv= .tuple #[i64 a.1,i64 a.2]∧H'=bZ bh h'::ax h.bd s'::Fr) (fun ch H'=>∃ s',h.alloc s wd rf= .off s'∧ch=dh∧H'=ax h.bd s'::Fr)):=by
 refine ak func30 aa ntmps30 aa (dO fun bs bt x=>(ac (ab (kPb (aY aa) aa fun b3=>(kPa aa aa (kPa aa aa (ad (ac (ac (ab (kPf cO isAgg119 aa aa aa aa ?_)))))))))))
 refine ap aa (ar call72 aa) (bF (q:=k7 h.o) (fun Fr=>fL B Fr bs h.S h.o)) .free aa aa ?_
 refine kPv (bu aa) aa (ad ?_)
 refine aV aa (fun h13=> ?_) (fun h13=> ?_)
 ·have ho:h.o=false:=by simpa using h13
  have hof:¬ h.o=true:=by rw[ho];decide
  refine ac (ab (kPa aa aa (kPa aa aa (ad (aj [5,4,3,0] rfl (au ?_))))))
  exact bz results30 aa aa (fun w hw=>⟨_,⟨(0,2),h,s,by unfold HpS.alloc;rw[if_neg hof],rfl,rfl⟩,ce (bs:=bs) (bt:=bt) (x:=x) (hw.dp [0])⟩)
 ·have ho:h.o=true:=by simpa using h13
  refine aM [2] (aK (H':=gS bs h.S::_) (fun w hh=>by rw[ho] at hh;exact hh) (aw (ac (wx [14] Tryz.mixed (by kernel_rfl) (by kernel_rfl) ?_))))
  refine B5 (kQm aa aa (kQv (aF aa) aa (kQv (aC (m:=_) eQ aa aa) aa (kQv (ag isAgg53 aa aa) aa (kQm aa aa (kQv (aF aa) aa (kQv (aC (m:=_) c6 aa aa) aa (kQv (ah isAgg39 sizeOf39 aa aa) aa ?_))))))))
  refine kQv (ah isAgg63 sizeOf63 aa aa) aa ?_
  refine kQm aa aa (kQv (aF aa) aa (kQv (aC (m:=_) cO aa aa) aa (kQv (ag isAgg119 aa aa) aa (kQv (c7 aa aa) aa (bM (aM [5,0] ?_))))))
  refine aQ aa (ar call76 aa) (ub B _ _ _ h.bd bs bD (fun b S=>gS b S) _ _ (oh B h.bd bs h.c) h.c hW.c wd rf s h.S (hW.ok ho)) .free aa aa ?_ ?_
  rotate_left
  ·rintro _ _ ⟨s9,hm9,rfl,rfl⟩
   exact aX fun w hh=>⟨_,⟨s9,by unfold HpS.alloc;rw[if_pos ho,show cY fy h.c wd rf s h.S= .off s9 from hm9];rfl,rfl,rfl⟩,hh.dp [1,1,1,1]⟩
  rintro _ _ ⟨⟨at2,a2⟩,S2,s2,hm2,rfl,hok2,rfl⟩
  refine ad (B6 (kQm aa aa (kQv (az aa aa) aa (kQv (az aa aa) aa (kQa aa aa (kQa aa aa (bM (aj [7,6,5,4,0] rfl (ac (ac (ab ?_)))))))))))
  refine kPm aa aa (kPv (am aa aa aa) aa (ad ?_))
  refine aV aa (fun h33=> ?_) (fun h33=> ?_)
  ·have ha2:a2≠0:=by simpa using h33
   refine ac (ab (kPm aa aa (kPa aa aa (kPa aa aa (ad (au ?_))))))
   exact bz results30 aa aa (fun w hw=>⟨_,⟨(0,a2),{h with S:=S2},s2,by unfold HpS.alloc;rw[if_pos ho,show cY fy h.c wd rf s h.S= .ok ((at2,a2),S2) s2 from hm2];simp only[aU];rw[if_pos ha2],rfl,rfl⟩,jX (h:={h with S:=S2,T:=h.T}) (bs:=bs) (bt:=bt) (x:=x) ho ((hw.dp [2]).pk [2,1,1,1])⟩)
  ·have ha2:¬ a2≠0:=by simpa using h33
   refine aw (ac (ab (kPf eP isAgg120 aa aa aa aa (kPm aa aa (aM [4] (de aa (ar call78 aa) (ip B _ bt h.T at2 hW.t1) .free aa aa ?_))))))
   refine kPa aa aa (kPa aa aa (ad (aj [5,4] rfl (au ?_))))
   exact bz results30 aa aa (fun w hw=>⟨_,⟨((h.T.take at2).1,0),{h with S:=S2,T:=(h.T.take at2).2},s2,by unfold HpS.alloc;rw[if_pos ho,show cY fy h.c wd rf s h.S= .ok ((at2,a2),S2) s2 from hm2];simp only[aU];rw[if_neg ha2],rfl,rfl⟩,jX (h:={h with S:=S2,T:=(h.T.take at2).2}) (bs:=bs) (bt:=bt) (x:=x) ho ((hw.dp [3]).pk [3,2,0,1])⟩)
def p6(X:bC)(p:Int):Int:=(bG X.went p).getD 0
def pX(c:Cfg)(b:Blk)(p:Int):Int:=if b.has c p=true then p else 0
def HpS.finR(h:HpS)(X:bC)(s:Dev)(a:Int)(h':HpS)(s':Dev):Prop:=∃ S',iJ h.c X.block h.S s= .ok (a,S') s'∧
 ((a≠0∧h'={h with X:=none,S:=S'})∨(a=0∧∃ ord:List (Int×Int),ord.Perm h.T.at_∧h'={h with X:=none,S:=S',T:=eT.moved (p6 X) h.T.last ord}))
def HpS.colR(h:HpS)(s:Dev)(a:Int)(h':HpS)(s':Dev):Prop:=(h.o=true∧a=2∧h'=h∧s'=s)∨(h.o=false∧∃ X s1,(ei h.bd h.c (h.blk s) ((h.blk s).rts++h.words)).run s= .ok X s1∧h.finR X s1 a h' s')
def HpS.colOff(h:HpS)(s s':Dev):Prop:=h.o=false∧((ei h.bd h.c (h.blk s) ((h.blk s).rts++h.words)).run s= .off s'∨∃ X s1,(ei h.bd h.c (h.blk s) ((h.blk s).rts++h.words)).run s= .ok X s1∧iJ h.c X.block h.S s1= .off s')
theorem th{B:World}{Fr:List HP}{bh bs bt x:Nat}{h:HpS}{w:World}(ho:h.o=false)(hx:h.X=none)(hh:Holds B (bX bh bs bt x h::dV bs h.S::eu bt h.T::Fr) w):Holds B (bZ bh h::Fr) w:=
 nw (bs:=bs) (bt:=bt) (x:=x) ho (by rw[hx];exact(hh.unpr (p:=True) trivial).back 3 (by simp))
def HpS.abortR(h:HpS)(s:Dev)(a:Int)(h':HpS)(s':Dev):Prop:=(h.o=false∧a=2∧h'=h∧s'=s)∨(h.o=true∧a=0∧∃ S',h.S.abort s= .ok S' s'∧∃ ord:List (Int×Int),ord.Perm h.T.at_∧h'={h with o:=false,S:=S',T:=eT.moved (pX h.c (h.blk s')) h.T.last ord})
theorem tn(B:World)(Fr:List HP)(bh:Nat)(h:HpS)(s:Dev)(hW:db h s)(ho:h.o=true):
 ∀ w,Holds B (bZ bh h::ax h.bd s::Fr) w→Calls Tryz.prog 33 [ptr bh].toArray w (Ret B (fun rv H'=>∃ a h' s',h.commit s= .ok (a,h') s'∧rv=i64 a∧H'=bZ bh h'::ax h.bd s'::Fr) (fun ch H'=>∃ s',h.commit s= .off s'∧ch=dh∧H'=ax h.bd s'::Fr)):=by
 refine ak func33 aa ntmps33 aa (dO fun bs bt x=>(aM [1] (aK (H':=gS bs h.S::_) (fun w hh=>by rw[ho] at hh;exact hh) (aM [0,3] (aK (H':=gS bs h.S::ax h.S.L.d s::_) (fun w hh=>by rw[hW.k.d];exact hh) (ac (ab (kPa aa aa (ad (ac (ab ?_)))))))))))
 refine kPf cO isAgg119 aa aa aa aa ?_
 refine aQ aa (ar call83 aa) (ni B _ bs h.S s (hW.sw ho).1 (hW.sw ho).2) .free aa aa ?_ ?_
 rotate_left
 ·rintro _ _ ⟨s9,hm9,rfl,rfl⟩
  exact aX fun w hh=>⟨_,⟨s9,by unfold HpS.commit;rw[if_pos ho,hm9];rfl,rfl,rfl⟩,by rw[hW.k.d] at hh;exact hh.dp [1,1,1]⟩
 rintro _ _ ⟨S2,s2,hm2,rfl,rfl⟩
 refine kPa aa aa (ad (au ?_))
 exact aq results33 aa (fun w hw=>⟨_,⟨0,{h with o:=false,S:=S2},s2,by unfold HpS.commit;rw[if_pos ho,hm2];rfl,rfl,rfl⟩,by rw[hW.k.d] at hw;exact nw (h:={h with o:=false,S:=S2}) (bs:=bs) (bt:=bt) (x:=x) aa (hw.pk [2,0,1,1])⟩)
theorem tq(B:World)(Fr:List HP)(bh:Nat)(h:HpS)(s:Dev)(hW:db h s)(ho:h.o=false):
 ∀ w,Holds B (bZ bh h::ax h.bd s::Fr) w→Calls Tryz.prog 33 [ptr bh].toArray w (Ret B (fun rv H'=>∃ a h' s',h.commit s= .ok (a,h') s'∧rv=i64 a∧H'=bZ bh h'::ax h.bd s'::Fr) (fun ch H'=>∃ s',h.commit s= .off s'∧ch=dh∧H'=ax h.bd s'::Fr)):=by
 refine ak func33 aa ntmps33 aa (dO fun bs bt x=>(aM [1] (aK (H':=dV bs h.S::_) (fun w hh=>by rw[ho] at hh;exact hh) (ac (ab (kPa aa aa (ad (ac (ab (kPf cO isAgg119 aa aa aa aa (ap aa (ar call83 aa) (bF (q:=dV) (fun Fr=>su B Fr bs h.S)) .free aa aa ?_)))))))))))
 refine kPa aa aa (ad (au ?_))
 exact aq results33 aa (fun w hw=>⟨_,⟨2,h,s,by unfold HpS.commit;rw[if_neg (by rw[ho];decide)],rfl,rfl⟩,nw (bs:=bs) (bt:=bt) (x:=x) ho (hw.pk [1])⟩)
theorem pi(B:World)(Fr:List HP)(bh:Nat)(h:HpS)(s:Dev)(hW:db h s):∀ w,Holds B (bZ bh h::ax h.bd s::Fr) w→Calls Tryz.prog 33 [ptr bh].toArray w (Ret B (fun rv H'=>∃ a h' s',h.commit s= .ok (a,h') s'∧rv=i64 a∧H'=bZ bh h'::ax h.bd s'::Fr) (fun ch H'=>∃ s',h.commit s= .off s'∧ch=dh∧H'=ax h.bd s'::Fr)):=by
 cases ho:h.o
 ·exact tq B Fr bh h s hW ho
 ·exact tn B Fr bh h s hW ho
theorem zC(B:World)(Fr:List HP)(c1 x:Nat)(X:bC)(p:Int)(hp:0≤p∧p≤1000000):
 ∀ w,Holds B (row c1 [ptr x] 121::eD x X::Fr) w→Calls Tryz.prog 152 [i64 p,ptr c1].toArray w (aZ B (row c1 [ptr x] 121::eD x X::Fr) (i64 (p6 X p))):=by
 refine ak func152 aa ntmps152 aa (ac (ab (kPa aa aa (ad (ac (ab (kPv (ag isAgg121 aa aa) aa (kPm aa aa (kPv (cR runUnderlying3 runUnderlying24 aa (fk (by omega))) aa (ap aa (ar call153 aa) (bF (q:=eD) (fun Fr=>tM B Fr x X p)) .free aa aa ?_))))))))))
 refine kPa aa aa (ad (au ?_))
 exact aq results152 aa (fun w hw=>⟨rfl,hw⟩)
theorem A9(B:World)(c1 x:Nat)(X:bC):AF B 152 [] [ptr c1] Unit (fun _=>[row c1 [ptr x] 121,eD x X]) (fun p=>0≤p∧p≤1000000) (p6 X) (fun _ e=>e) where
 enter:=call152
 says:=fun Fr p e hp w hw=>(zC B Fr c1 x X p hp w hw).mono fun en w' h=>by
  obtain⟨rfl,h⟩:=h
  exact⟨_,⟨rfl,rfl⟩,h⟩
theorem lu(B:World)(Fr:List HP)(bh bs bt x:Nat)(h:HpS)(s:Dev)(X:bC)(hx:h.X=some X)(ho:h.o=false)(hX:fj X)(hrl0:0<X.b.rts.length)(hu:U64 s)(hK:AD h.S h.bd h.c s)(htp:∀ p∈h.T.at_,0≤p.2∧p.2≤1000000):
 ∀ w,Holds B (bX bh bs bt x h::dV bs h.S::eu bt h.T::eD x X::ax h.bd s::Fr) w→Calls Tryz.prog 92 [ptr bh].toArray w (Ret B (fun rv H'=>∃ a h' s',h.finR X s a h' s'∧rv=i64 a∧H'=bZ bh h'::ax h.bd s'::Fr) (fun ch H'=>∃ s',iJ h.c X.block h.S s= .off s'∧ch=dh∧H'=ax h.bd s'::Fr)):=by
 refine ak func92 aa ntmps92 aa (aK (H':=row bh [ptr h.bd,i64 h.c.log,i64 h.c.roots,i64 h.c.space,ptr bs,ptr bt,ptr x] 123::_) (fun w hh=>by have h9:=hh;unfold bX at h9;rw[hx] at h9;exact h9) (ac (ab (kPa aa aa (ad (ac (ab (kPf fB isAgg121 aa aa aa aa (kPb (cm zeroValue121 aa) aa fun b3=> ?_)))))))))
 refine kPs (aO sizeOf121 aa aa (by first | rfl | assumption) rfl) rfl ?_;refine ad ?_;refine ac ?_;refine ab ?_;refine kPm aa aa ?_;refine kPv (aF aa) aa ?_;refine kPv (aC (m:=_) fB aa aa) aa ?_
 refine kPs (aO sizeOf121 aa aa (by first | rfl | assumption) rfl) rfl ?_;refine ad ?_;refine aj [3,2,0] rfl ?_;refine ac ?_;refine ac ?_;refine aM [1,0] ?_;refine aK (H':=bX bh bs bt x {h with X:=none}::row b3 [ptr x] 121::_) (fun w hh=>hh) ?_;refine cH 13 Tryz.mixed (by kernel_rfl) (by kernel_rfl) ?_;refine kQm aa aa ?_;refine kQv (aF aa) aa ?_;refine kQv (aC (m:=_) eQ aa aa) aa ?_
 refine kQv (ag isAgg53 aa aa) aa (kQm aa aa (kQv (aF aa) aa (kQv (aC (m:=_) c6 aa aa) aa (kQv (ah isAgg39 sizeOf39 aa aa) aa ?_))))
 refine kQm aa aa (kQv (aF aa) aa (kQv (aC (m:=_) cO aa aa) aa (kQv (ag isAgg119 aa aa) aa (kQv (ag isAgg121 aa aa) aa (bM (aM [2,3,3] ?_))))))
 refine aQ aa (ar call151 aa) (wz B _ bs x h.bd h.S X hX hrl0 h.c s hu hK) .free aa aa ?_ ?_
 rotate_left
 ·rintro _ _ ⟨s9,hm9,rfl,rfl⟩
  exact aX fun w hh=>⟨_,⟨s9,hm9,rfl,rfl⟩,hh.dp [1,1,1]⟩
 rintro _ _ ⟨a2,S2,s2,hm2,rfl,rfl⟩
 refine kPa aa aa (ad (aj [4,3,2,0] rfl (ac (ab (kPm aa aa (kPv (am aa aa aa) aa (ad ?_)))))))
 refine aV aa (fun h27=> ?_) (fun h27=> ?_)
 ·have ha2:a2≠0:=by simpa using h27
  refine ac (ab (kPm aa aa (kPa aa aa (ad (au ?_)))))
  exact aq results92 aa (fun w hw=>⟨_,⟨a2,{h with X:=none,S:=S2},s2,⟨S2,hm2,.inl ⟨ha2,rfl⟩⟩,rfl,rfl⟩,th (h:={h with X:=none,S:=S2}) (bs:=bs) (bt:=bt) (x:=x) ho aa ((hw.dp [1,3]).pk [2,0,1])⟩)
 ·have ha2:a2=0:=by simpa using h27
  refine aw (ac (ab (kPf eP isAgg120 aa aa aa aa (kPv (c7 aa aa) aa (aM [5,4,1] (aE aa (ar call96 aa) ((fun w hh=>qI B _ bt h.T _ [] [ptr b3] Unit _ _ _ _ (A9 B b3 x X) htp () w hh)) .free aa aa ?_))))))
  rintro _ _ ⟨ord,hperm,rfl⟩
  refine aK (H':=eu bt (eT.moved (p6 X) h.T.last ord)::row b3 [ptr x] 121::eD x X::dV bs S2::ax h.bd s2::bX bh bs bt x {h with X:=none}::Fr) (fun w hh=>hh) (ad (aj [2] rfl (ac (ab (kPa aa aa (ad (au ?_)))))))
  exact aq results92 aa (fun w hw=>⟨_,⟨0,{h with X:=none,S:=S2,T:=eT.moved (p6 X) h.T.last ord},s2,⟨S2,by rw[←ha2];exact hm2,.inr ⟨rfl,ord,hperm,rfl⟩⟩,rfl,rfl⟩,th (h:={h with X:=none,S:=S2,T:=eT.moved (p6 X) h.T.last ord}) (bs:=bs) (bt:=bt) (x:=x) ho aa ((hw.dp [1,1]).pk [3,1])⟩)
theorem uJ{k:Int}{v:Int}:∀ {l:List (Int×Int)} {p:Int×Int},p∈mset l k v→p.2=v∨p∈l
 | [],p,h=>by
   simp only[mset,List.mem_singleton] at h
   exact .inl (by rw[h])
 | q::l,p,h=>by
   unfold mset at h
   split at h
   ·rcases List.mem_cons.1 h with h | h
    ·exact .inl (by rw[h])
    ·exact .inr (List.mem_cons_of_mem _ h)
   ·rcases List.mem_cons.1 h with h | h
    ·exact .inr (by rw[h];exact List.mem_cons_self ..)
    ·exact(uJ h).imp id (List.mem_cons_of_mem _)
theorem vS{to_:Int→Int}{P:Int→Prop}(hP:∀ p,P (to_ p)):∀ (ord:List (Int×Int)) (x:List (Int×Int)×List (Int×Int)),(∀ p∈x.1,P p.2)→(∀ p∈(ord.foldl (dH to_) x).1,P p.2)∧(ord.foldl (dH to_) x).1.length≤x.1.length+ord.length
 | [],x,h=>⟨h,by simp⟩
 | a::t,x,h=>by
   simp only[List.foldl_cons,List.length_cons]
   have hx:(∀ p∈(dH to_ x a).1,P p.2)∧(dH to_ x a).1.length≤x.1.length+1:=by
    unfold dH
    split
    ·refine⟨fun p hp=> ?_,oX ..⟩
     rcases uJ hp with e | e
     ·rw[e];exact hP _
     ·exact h p e
    ·exact⟨h,by omega⟩
   have:=vS hP t _ hx.1
   exact⟨this.1,by omega⟩
theorem db.moved{h:HpS}{s s':Dev}(hW:db h s){to_:Int→Int}(hto:∀ p,0≤to_ p∧to_ p≤1000000){ord:List (Int×Int)}(hp:ord.Perm h.T.at_){S':bD}(hL:dR S'.L)(hd:S'.L.d=h.bd)(hc:S'.L.c=h.c)(hu:U64 s')(hn:s'.n=s.n):db {h with X:=none,o:=false,S:=S',T:=eT.moved to_ h.T.last ord} s':=by
 obtain⟨g1,g2⟩:=vS (to_:=to_) (P:=fun v=>0≤v∧v≤1000000) hto ord ([],[]) (fun _ h=>by cases h)
 exact⟨hW.c,⟨hL,by rw[hn];exact hW.k.n,hd,hc⟩,fun h=>(by cases h),hu,hW.t1,by
  show(ord.foldl (dH to_) ([],[])).1.length≤_
  have h1:=hp.length_eq;have h2:=hW.tl
  simp only[List.length_nil] at g2;omega,g1,fun X hX=>(by cases hX)⟩
theorem HpS.words_b{h:HpS}{s:Dev}(hW:db h s):(∀ v∈h.words,0≤v∧v<18446744073709551616)∧h.words.length≤800000:=
 ⟨fun v hv=>by
  obtain⟨n,_,rfl⟩:=List.mem_map.1 hv
  have:=hW.pb n;omega,by have:=hW.tl;simp[HpS.words,cq];exact this⟩
abbrev HpS.ncol(h:HpS)(s:Dev):bC:=ei h.bd h.c (h.blk s) ((h.blk s).rts++h.words)
theorem db.ncol{h:HpS}{s:Dev}(hW:db h s):fj (h.ncol s):=
 lU hW.c (dB hW.c hW.u) (fc hW.c) (fQ hW.u) (fun v hv=>by
  rcases List.mem_append.1 hv with hv | hv
  ·exact fQ hW.u v hv
  ·exact(HpS.words_b hW).1 v hv)
theorem DM{h:HpS}{s s1:Dev}{X:bC}{a:Int}{h':HpS}{s':Dev}(hW:db h s)(ho:h.o=false)(hX:fj X)(hu:U64 s1)(hn:s1.n=s.n)(e:h.finR X s1 a h' s'):db h' s'∧h'.o=false∧h'.X=none∧h'.bd=h.bd∧h'.c=h.c:=by
 obtain⟨S',e1,hor⟩:=e
 obtain⟨k1,k2,k3,k4,k5,_⟩:=zQ (tT hX) hW.k.w hu (by rw[hn];exact hW.k.n) e1
 rcases hor with ⟨_,rfl⟩ | ⟨_,ord,hp,rfl⟩
 ·exact⟨⟨hW.c,⟨k3,by rw[k2,hn];exact hW.k.n,k4.trans hW.k.d,k5.trans hW.k.c⟩,fun h2=>(by rw[show h.o=true from h2] at ho;cases ho),k1,hW.t1,hW.tl,hW.tp,fun X hX=>(by cases hX)⟩,ho,rfl,rfl,rfl⟩
 ·have h1:=hW.moved (fun p=>hX.vb p) hp k3 (k4.trans hW.k.d) (k5.trans hW.k.c) k1 (k2.trans hn)
  rw[←ho] at h1
  exact⟨h1,ho,rfl,rfl,rfl⟩
theorem DW{h:HpS}{s:Dev}{a:Int}{h':HpS}{s':Dev}(hW:db h s)(ho:h.o=false)(e:h.colR s a h' s'):db h' s'∧h'.o=false∧h'.X=none∧h'.bd=h.bd∧h'.c=h.c:=by
 rcases e with ⟨h1,_⟩ | ⟨_,X,s1,e1,e2⟩
 ·rw[ho] at h1;cases h1
 ·obtain⟨g1,g2,_⟩:=oD _ _ _ _ _ hW.ncol hW.u e1
  exact DM hW ho g1 g2 (vI e1) e2
theorem l0(B:World)(Fr:List HP)(bh:Nat)(h:HpS)(s:Dev)(hW:db h s)(hb:(s.block h.c).2=0):
 ∀ w,Holds B (bZ bh h::ax h.bd s::Fr) w→Calls Tryz.prog 36 [ptr bh].toArray w (Ret B (fun rv H'=>∃ a h' s',h.colR s a h' s'∧rv=i64 a∧H'=bZ bh h'::ax h.bd s'::Fr) (fun ch H'=>∃ s',h.colOff s s'∧ch=dh∧H'=ax h.bd s'::Fr)):=by
 refine ak func36 aa ntmps36 aa (dO fun bs bt x=> ?_)
 have hbk:=dB (s:=s) hW.c hW.u
 have hbl:(h.blk s).rts.length≤16:=fc (s:=s) hW.c
 obtain⟨hwb,hwl⟩:=HpS.words_b hW
 refine ac (ab (kPa aa aa (ad (ac (ac (ab (kPf cO isAgg119 aa aa aa aa (ap aa (ar call72 aa) (bF (q:=k7 h.o) (fun Fr=>fL B Fr bs h.S h.o)) .free aa aa ?_))))))))
 refine ad ?_
 refine aV aa (fun h8=> ?_) (fun h8=> ?_)
 ·have ho:h.o=true:=by simpa using h8
  refine ac (ab (kPa aa aa (ad (au ?_))))
  exact aq results36 aa (fun w hw=>⟨_,⟨2,h,s,.inl ⟨ho,rfl,rfl,rfl⟩,rfl,rfl⟩,ce (bs:=bs) (bt:=bt) (x:=x) hw⟩)
 ·have ho:h.o=false:=by simpa using h8
  refine aM [1] (aK (H':=dV bs h.S::_) (fun w hh=>by rw[ho] at hh;exact hh) (aw (ac (ab (kPm aa aa (aM [1,3] (aE aa (ar call73 aa) (eX B _ bh bs bt x h s hW.c hW.u) .free aa aa ?_)))))))
  rintro _ _ ⟨sv,hsv,rfl,rfl⟩
  refine cy fun qb cb hqb hqbi=> ?_
  subst hqb
  refine kPb (aD zeroValue125 aa) aa fun b3=> ?_
  refine kPs (aA (vs:=_) sizeOf125 aa aa aa (by first | rfl | exact eB (by assumption)) rfl) rfl ?_;refine ad ?_;refine aj [3,2,0] rfl ?_;refine ac ?_;refine aK (H':=row b3 [i64 (h.blk s).act,i64 (h.blk s).used,.slice qb (h.blk s).rts.length cb] 125::_) (fun w hh=>hh) ?_
  refine cQ [0,1,2,3,4,5,6,7,8,9,11,12,14,10,13,15,16,17,18,19,20] [10,13,15,16,17,20] [0,1,2,3,4,5,6,7,8,9,11,12,14] [10,13,15,16,17] [bX bh bs bt x h,row b3 [i64 (h.blk s).act,i64 (h.blk s).used,.slice qb (h.blk s).rts.length cb] 125] Tryz.mixed (by kernel_rfl) ?_
  refine an aa aa aa (al aa) .free aa (an aa aa aa (al aa) .free aa (an aa aa aa (aF aa) .free aa (an aa aa aa (aC (m:=_) eQ aa aa) .free aa (an aa aa aa (ag isAgg53 aa aa) .free aa (an aa aa aa (al aa) .free aa (an aa aa aa (aF aa) .free aa (an aa aa aa (aC (m:=_) c6 aa aa) .free aa (an aa aa aa (ah isAgg39 sizeOf39 aa aa) .free aa ?_))))))))
  refine an aa aa aa (ah isAgg125 sizeOf125 aa aa) .free aa ?_
  refine an aa aa aa (aC (m:=_) eO aa aa) .free aa (an aa aa aa (ag isAgg22 aa aa) .free aa (an aa aa aa (al aa) .free aa (aS aa aa (kPb (rH runUnderlying22 sizeOf24) aa fun b21=>(aK (H':=da 0 (.slice (some ⟨b21,0,none⟩) 0 0,[])::_) (fun w hh=>gB (xs:=[]) aa aa hh) (ad (cL (aS aa aa (cX aa (dt (yv:= .slice qb (h.blk s).rts.length cb) (ys:=(h.blk s).rts) aa aa runUnderlying22 runUnderlying22 ⟨_,rfl⟩ sizeOf24 zeroValue24 aa (fun _=>rfl) gh aa aa (cP (2 - 1) aa) (by simp;omega)) .free aa aa ?_)))))))))
  rintro nv2 _ ⟨hnv2,rfl⟩
  refine ad (cL (aS aa aa (aM [3,5] (aE aa (ar call90 aa) (mI B _ bh bs bt x h s hW) .free aa aa ?_))))
  rintro wv _ ⟨hwv,rfl⟩
  refine cy fun qw cw hqw hqwi=> ?_
  subst hqw
  refine ad (cL (aS aa aa (aM [3] (cX aa (dt (yv:= .slice qw h.words.length cw) (ys:=h.words) aa aa runUnderlying22 runUnderlying22 ⟨_,rfl⟩ sizeOf24 zeroValue24 aa (fun _=>rfl) gh aa aa (cP (1 - 1) aa) (by simp;omega)) .free aa aa ?_))))
  rintro nv3 _ ⟨hnv3,rfl⟩
  refine cy fun qn cn hqn0 hqni=> ?_
  subst hqn0
  have hqn:qn=none→(h.blk s).rts++h.words=[]:=fun e=>by
   cases hl:(h.blk s).rts++h.words with
   | nil=>rfl
   | cons a t=>
     obtain⟨b,o,h⟩:=hqni 0 (by show 0<((h.blk s).rts++h.words).length;rw[hl];exact Nat.succ_pos _)
     rw[e] at h;cases h
  refine ad (cL (aS aa aa (aM [5] (aE aa (ar call89 aa) (nU B _ h.bd h.c hW.c (h.blk s) hbk (.slice qb (h.blk s).rts.length cb) aa qn cn ((h.blk s).rts++h.words) (by simp;omega) hqn (cP 1 aa)) .free aa aa ?_))))
  rintro _ _ ⟨x2,rfl,rfl⟩
  refine ad (cL (aT aa aa aa (aF aa) .free aa (aT aa aa aa (aC (m:=_) fB aa aa) .free aa (aS aa aa (aM [3] (kPs (aO sizeOf121 aa aa aa aa) aa (aK (H':=bX bh bs bt x2 {h with X:=some (h.ncol s)}::_) (fun w hh=>hh) (ad (cZ aa (cM (aj [2,0] rfl ?_)))))))))))
  refine ac (ab (kPf fB isAgg121 aa aa aa aa (aM [1,5] ?_)))
  refine aQ aa (ar call91 aa) (wQ B _ x2 (h.ncol s) hW.ncol s hW.u) .free aa aa ?_ ?_
  rotate_left
  ·rintro _ _ ⟨s9,hm9,rfl,rfl⟩
   exact aX fun w hh=>⟨_,⟨s9,⟨ho,.inl hm9⟩,rfl,rfl⟩,(show Holds B (ax h.bd s9::_) w from hh).dp [1,1,1,1,1,1,1]⟩
  rintro _ _ ⟨X,s1,hm1,rfl,rfl⟩
  obtain⟨hX1,hu1,hXb,hXbd,hXc,_⟩:=oD _ _ _ _ _ hW.ncol hW.u hm1
  have hn1:=vI hm1
  refine aK (H':=eD x2 X::ax h.bd s1::_) (fun w hh=>hh) (ad (ac (aM [2] (aK (H':=bX bh bs bt x2 {h with X:=some X}::_) (fun w hh=>hh) (ab (kPm aa aa (aM [0,6,4,0,0] ?_)))))))
  refine aQ aa (ar call92 aa) (lu B _ bh bs bt x2 {h with X:=some X} s1 X aa ho hX1 (by rw[hXb];exact mX hW.c hb) hu1 ⟨hW.k.w,by rw[hn1];exact hW.k.n,hW.k.d,hW.k.c⟩ hW.tp) .free aa aa ?_ ?_
  rotate_left
  ·rintro _ _ ⟨s9,hm9,rfl,rfl⟩
   exact aX fun w hh=>⟨_,⟨s9,⟨ho,.inr ⟨X,s1,hm1,hm9⟩⟩,rfl,rfl⟩,(show Holds B (ax h.bd s9::_) w from hh).dp [1,1,1,1]⟩
  rintro _ _ ⟨a2,h2,s2,hf2,rfl,rfl⟩
  refine kPa aa aa (ad (aj [2] rfl (au ?_)))
  exact aq results36 aa (fun w hw=>⟨_,⟨a2,h2,s2,.inr ⟨ho,X,s1,hm1,hf2⟩,rfl,rfl⟩,(hw.dp [2,2,2,2])⟩)
def fV:Nat→bC→Dev→Out (Bool×bC)
 | 0,S,s=> .ok (false,S) s
 | f+1,S,s=>(S.step s).then fun r s'=>if r.1=true then .ok (true,r.2) s' else fV f r.2 s'
def HpS.x0(h:HpS)(s:Dev):bC:=h.X.getD (h.ncol s)
def HpS.stepR(h:HpS)(s:Dev)(n:Int)(d:Bool)(a:Int)(h':HpS)(s':Dev):Prop:=(h.o=true∧d=false∧a=2∧h'=h∧s'=s)∨(h.o=false∧∃ X s1,fV n.toNat (h.x0 s) s= .ok (d,X) s1∧((d=false∧a=0∧h'={h with X:=some X}∧s'=s1)∨(d=true∧HpS.finR {h with X:=some X} X s1 a h' s')))
def HpS.stepOff(h:HpS)(s:Dev)(n:Int)(s':Dev):Prop:=h.o=false∧(fV n.toNat (h.x0 s) s= .off s'∨∃ X s1,fV n.toNat (h.x0 s) s= .ok (true,X) s1∧iJ h.c X.block h.S s1= .off s')
theorem j8(f:Nat)(S:bC)(s:Dev):fV (f+1) S s=(S.step s).then fun r s'=>if r.1=true then .ok (true,r.2) s' else fV f r.2 s':=rfl
theorem kO{f:Nat}{S:bC}{s s':Dev}{r:Bool×bC}(e:S.step s= .ok r s')(hr:r.1=true):fV (f+1) S s= .ok (true,r.2) s':=by rw[j8,e];show(if r.1=true then _ else _)=_;rw[if_pos hr]
theorem p9{f:Nat}{S:bC}{s s':Dev}{r:Bool×bC}(e:S.step s= .ok r s')(hr:¬ r.1=true):fV (f+1) S s=fV f r.2 s':=by rw[j8,e];show(if r.1=true then _ else _)=_;rw[if_neg hr]
theorem ol{f:Nat}{S:bC}{s s':Dev}(e:S.step s= .off s'):fV (f+1) S s= .off s':=by rw[j8,e];rfl
theorem uO(B:World)(Fr:List HP)(bh:Nat)(h:HpS)(s:Dev)(hW:db h s)(X0:bC)(hx:h.X=some X0)(n:Int)(hn:n≤9000000000):
 ∀ w,Holds B (bZ bh h::ax h.bd s::Fr) w→Calls Tryz.prog 126 [ptr bh,i64 n].toArray w (Ret B (fun rv H'=>∃ d a h' s',h.stepR s n d a h' s'∧rv= .tuple #[.bool d,i64 a]∧H'=bZ bh h'::ax h.bd s'::Fr) (fun ch H'=>∃ s',h.stepOff s n s'∧ch=dh∧H'=ax h.bd s'::Fr)):=by
 refine ak func126 aa ntmps126 aa ?_
 obtain⟨w1,w2,w3,w4⟩:=hW.x X0 hx
 have hx0:h.x0 s=X0:=by unfold HpS.x0;rw[hx];rfl
 refine dO fun bs bt x=>(ac (ab (kPa aa aa (kPa aa aa (ad (ac (ac (ab (kPf cO isAgg119 aa aa aa aa (ap aa (ar call72 aa) (bF (q:=k7 h.o) (fun Fr=>fL B Fr bs h.S h.o)) .free aa aa ?_))))))))))
 refine ad ?_
 refine aV aa (fun h11=> ?_) (fun h11=> ?_)
 ·have ho:h.o=true:=by simpa using h11
  refine ac (ab (kPa aa aa (kPa aa aa (ad (au ?_)))))
  exact bz results126 aa aa (fun w hw=>⟨_,⟨false,2,h,s,.inl ⟨ho,rfl,rfl,rfl,rfl⟩,rfl,rfl⟩,ce (bs:=bs) (bt:=bt) (x:=x) hw⟩)
 ·have ho:h.o=false:=by simpa using h11
  refine aM [1] (aK (H':=dV bs h.S::_) (fun w hh=>by rw[ho] at hh;exact hh) (aw (ac (ac (ab (kPm aa aa (kPv (aF aa) aa (kPv (aC (m:=_) fB aa aa) aa ?_))))))))
  have hx15:some (BP x h.X)=some (ptr x):=by rw[hx];rfl
  refine kPv (ag (v:=ptr x) isAgg121 aa hx15) aa (kPv (cV runUnderlying121 aa aa aa) aa (ad (aj [16,5,4,0,1] rfl (bH aa (rfl) (aw (ac (ac (aM [1,2] (aK (H':=bX bh bs bt x {h with X:=some X0}::eD x X0::_) (fun w hh=>by have e1:bX bh bs bt x h=bX bh bs bt x {h with X:=some X0}:=(by show row bh [ptr h.bd,i64 h.c.log,i64 h.c.roots,i64 h.c.space,ptr bs,ptr bt,BP x h.X] _=_;rw[hx]);rw[e1,hx] at hh;exact hh) (ab (kPm aa aa ?_)))))))))))
  refine kPm aa aa (ad (aI (df (ι:=Nat×bC×Dev) [39,5,4,0] (fun (k,X,s1)=>((k:Int)≤max n 0)∧(fj X)∧(U64 s1)∧(s1.n=s.n)∧(X.bd=h.bd)∧(0<X.b.rts.length)∧(fV (n.toNat - k) X s1=fV n.toNat (X0) s)) (fun (k,X,s1)=>[(40,i64 k)]) (fun (k,X,s1)=>bX bh bs bt x {h with X:=some X}::dV bs h.S::eu bt h.T::eD x X::ax h.bd s1::Fr) (fun (k,X,s1)=>n.toNat - k) (0,X0,s) (⟨by show(0:Int)≤max n 0;omega,w1,hW.u,rfl,w2,w4,rfl⟩) (fun a w st=>st.to ⟨rfl,trivial⟩ (fun hh=>(hh.pk [0,1,1]))) ?_)))
  rintro⟨k,X,s1⟩ ⟨hk,hX,hu,hn1,hXbd,hXb,hst⟩
  try simp only at hk hX hu hn1 hXbd hXb hst ⊢
  refine cE (σ':=[(40,i64 k),(39,_),(5,_),(4,_),(0,_)]) (aG aa) (ac (ab (kPv (am aa aa aa) aa (ad (ac ?_)))))
  refine aV aa (fun h41=> ?_) (fun h41=> ?_)
  ·have hkn:(k:Int)<n:=by simpa using h41
   rw[show n.toNat - k=(n.toNat - k - 1)+1 by omega] at hst
   refine aw (ac (aI (ac (ab (kPf fB isAgg121 aa aa aa aa (aM [3,3] ?_))))))
   refine aQ aa (ar call150 aa) ((by have h9:=fun Fr=>kF B Fr x X hX s1 hu;simp only[hXbd] at h9;exact h9 _)) .free aa aa ?_ ?_
   rotate_left
   ·rintro _ _ ⟨s9,hm9,rfl,rfl⟩
    exact aX fun w hh=>⟨_,⟨s9,⟨ho,.inl (by rw[hx0, ←hst];exact ol hm9)⟩,rfl,rfl⟩,(show Holds B (ax h.bd s9::_) w from hh).dp [1,1,1]⟩
   rintro _ _ ⟨r,s2,hm,rfl,rfl⟩
   obtain⟨hX2,hu2,hb2,hbd2,hc2,_,_,_⟩:=mx hX hu hm
   have hn2:=(rg hm).trans hn1
   refine ad ?_
   refine aV aa (fun h46=> ?_) (fun h46=> ?_)
   ·have hr:r.1=true:=by simpa using h46
    refine ac (ab (kPm aa aa (aM [2,2,2,0,0] ?_)))
    refine aQ aa (ar call92 aa) (lu B _ bh bs bt x {h with X:=some r.2} s2 r.2 aa ho hX2 (by rw[hb2];exact hXb) hu2 ⟨hW.k.w,by rw[hn2];exact hW.k.n,hW.k.d,hW.k.c⟩ hW.tp) .free aa aa ?_ ?_
    rotate_left
    ·rintro _ _ ⟨s9,hm9,rfl,rfl⟩
     exact aX fun w hh=>⟨_,⟨s9,⟨ho,.inr ⟨r.2,s2,by rw[hx0, ←hst];exact kO hm hr,hm9⟩⟩,rfl,rfl⟩,(show Holds B (ax h.bd s9::_) w from hh)⟩
    rintro _ _ ⟨a2,h2,s3,hf2,rfl,rfl⟩
    refine kPa aa aa (kPa aa aa (ad (aj [5,4,40,39,0] rfl (au ?_))))
    exact bz results126 aa aa (fun w hw=>⟨_,⟨true,a2,h2,s3,.inr ⟨ho,r.2,s2,by rw[hx0, ←hst];exact kO hm hr,.inr ⟨rfl,hf2⟩⟩,rfl,rfl⟩,hw⟩)
   ·have hr:¬ r.1=true:=by simpa using h46
    refine aw (ab (kPv (aP aa aa) aa (kPm aa aa (ad (aj [40,39,5,4,0] rfl ?_)))))
    exact fun a w st_=>⟨(k+1,r.2,s2),⟨by simp only;omega,hX2,hu2,hn2,hbd2.trans hXbd,(by rw[hb2];exact hXb),(by rw[←hst,show n.toNat - k=(n.toNat - (k+1))+1 by omega];exact(p9 hm (by simpa using h46)).symm)⟩,by simp only;omega,st_.to (aG aa) (fun hh=>(hh.pk [2,2,2]))⟩
  ·have hkn:¬ (k:Int)<n:=by simpa using h41
   rw[show n.toNat - k=0 by omega] at hst
   refine bJ (ac (ab (kPa aa aa (kPa aa aa (ad (au ?_))))))
   exact bz results126 aa aa (fun w hw=>⟨_,⟨false,0,{h with X:=some X},s1,.inr ⟨ho,X,s1,by rw[hx0, ←hst];rfl,.inl ⟨rfl,rfl,rfl,rfl⟩⟩,rfl,rfl⟩,nw (h:={h with X:=some X}) (bs:=bs) (bt:=bt) (x:=x) ho hw⟩)
theorem uP(B:World)(Fr:List HP)(bh:Nat)(h:HpS)(s:Dev)(hW:db h s)(hx:h.X=none)(hb:(s.block h.c).2=0)(n:Int)(hn:n≤9000000000):
 ∀ w,Holds B (bZ bh h::ax h.bd s::Fr) w→Calls Tryz.prog 126 [ptr bh,i64 n].toArray w (Ret B (fun rv H'=>∃ d a h' s',h.stepR s n d a h' s'∧rv= .tuple #[.bool d,i64 a]∧H'=bZ bh h'::ax h.bd s'::Fr) (fun ch H'=>∃ s',h.stepOff s n s'∧ch=dh∧H'=ax h.bd s'::Fr)):=by
 refine ak func126 aa ntmps126 aa ?_
 have hx0:h.x0 s=h.ncol s:=by unfold HpS.x0;rw[hx];rfl
 refine dO fun bs bt x=> ?_
 have hbk:=dB (s:=s) hW.c hW.u
 have hbl:(h.blk s).rts.length≤16:=fc (s:=s) hW.c
 obtain⟨hwb,hwl⟩:=HpS.words_b hW
 refine ac (ab (kPa aa aa (kPa aa aa (ad (ac (ac (ab (kPf cO isAgg119 aa aa aa aa (ap aa (ar call72 aa) (bF (q:=k7 h.o) (fun Fr=>fL B Fr bs h.S h.o)) .free aa aa ?_)))))))))
 refine ad ?_
 refine aV aa (fun h11=> ?_) (fun h11=> ?_)
 ·have ho:h.o=true:=by simpa using h11
  refine ac (ab (kPa aa aa (kPa aa aa (ad (au ?_)))))
  exact bz results126 aa aa (fun w hw=>⟨_,⟨false,2,h,s,.inl ⟨ho,rfl,rfl,rfl,rfl⟩,rfl,rfl⟩,ce (bs:=bs) (bt:=bt) (x:=x) hw⟩)
 ·have ho:h.o=false:=by simpa using h11
  refine aM [1] (aK (H':=dV bs h.S::_) (fun w hh=>by rw[ho] at hh;exact hh) (aw (ac (ac (ab (kPm aa aa (kPv (aF aa) aa (kPv (aC (m:=_) fB aa aa) aa ?_))))))))
  have hx15:some (BP x h.X)=some (.pointer none):=by rw[hx];rfl
  refine kPv (ag (v:= .pointer none) isAgg121 aa hx15) aa (kPv (cV runUnderlying121 aa aa aa) aa (ad (aj [16,5,4,0,1] rfl (li aa (rfl) (ac (ab (kPm aa aa (aM [1,3] (aE aa (ar call73 aa) (eX B _ bh bs bt x h s hW.c hW.u) .free aa aa ?_)))))))))
  rintro _ _ ⟨sv,hsv,rfl,rfl⟩
  refine cy fun qb cb hqb hqbi=> ?_
  subst hqb
  refine kPb (aD zeroValue125 aa) aa fun b6=> ?_
  refine kPs (aA (vs:=_) sizeOf125 aa aa aa (by first | rfl | exact eB (by assumption)) rfl) rfl ?_;refine ad ?_;refine aK (H':=row b6 [i64 (h.blk s).act,i64 (h.blk s).used,.slice qb (h.blk s).rts.length cb] 125::_) (fun w hh=>hh) ?_
  refine cQ [0,1,2,3,4,5,6,7,8,9,11,12,14,10,13,15,16,17,18,19,20] [10,13,15,16,17,20] [0,1,2,3,4,5,6,7,8,9,11,12,14] [10,13,15,16,17] [bX bh bs bt x h,row b6 [i64 (h.blk s).act,i64 (h.blk s).used,.slice qb (h.blk s).rts.length cb] 125] Tryz.mixed (by kernel_rfl) ?_
  refine an aa aa aa (al aa) .free aa (an aa aa aa (al aa) .free aa (an aa aa aa (aF aa) .free aa (an aa aa aa (aC (m:=_) eQ aa aa) .free aa (an aa aa aa (ag isAgg53 aa aa) .free aa (an aa aa aa (al aa) .free aa (an aa aa aa (aF aa) .free aa (an aa aa aa (aC (m:=_) c6 aa aa) .free aa (an aa aa aa (ah isAgg39 sizeOf39 aa aa) .free aa ?_))))))))
  refine an aa aa aa (ah isAgg125 sizeOf125 aa aa) .free aa ?_
  refine an aa aa aa (aC (m:=_) eO aa aa) .free aa (an aa aa aa (ag isAgg22 aa aa) .free aa (an aa aa aa (al aa) .free aa (aS aa aa (kPb (rH runUnderlying22 sizeOf24) aa fun b29=>(aK (H':=da 0 (.slice (some ⟨b29,0,none⟩) 0 0,[])::_) (fun w hh=>gB (xs:=[]) aa aa hh) (ad (cL (aS aa aa (cX aa (dt (yv:= .slice qb (h.blk s).rts.length cb) (ys:=(h.blk s).rts) aa aa runUnderlying22 runUnderlying22 ⟨_,rfl⟩ sizeOf24 zeroValue24 aa (fun _=>rfl) gh aa aa (cP (2 - 1) aa) (by simp;omega)) .free aa aa ?_)))))))))
  rintro nv2 _ ⟨hnv2,rfl⟩
  refine ad (cL (aS aa aa (aM [3,5] (aE aa (ar call90 aa) (mI B _ bh bs bt x h s hW) .free aa aa ?_))))
  rintro wv _ ⟨hwv,rfl⟩
  refine cy fun qw cw hqw hqwi=> ?_
  subst hqw
  refine ad (cL (aS aa aa (aM [3] (cX aa (dt (yv:= .slice qw h.words.length cw) (ys:=h.words) aa aa runUnderlying22 runUnderlying22 ⟨_,rfl⟩ sizeOf24 zeroValue24 aa (fun _=>rfl) gh aa aa (cP (1 - 1) aa) (by simp;omega)) .free aa aa ?_))))
  rintro nv3 _ ⟨hnv3,rfl⟩
  refine cy fun qn cn hqn0 hqni=> ?_
  subst hqn0
  have hqn:qn=none→(h.blk s).rts++h.words=[]:=fun e=>by
   cases hl:(h.blk s).rts++h.words with
   | nil=>rfl
   | cons a t=>
     obtain⟨b,o,h⟩:=hqni 0 (by show 0<((h.blk s).rts++h.words).length;rw[hl];exact Nat.succ_pos _)
     rw[e] at h;cases h
  refine ad (cL (aS aa aa (aM [5] (aE aa (ar call89 aa) (nU B _ h.bd h.c hW.c (h.blk s) hbk (.slice qb (h.blk s).rts.length cb) aa qn cn ((h.blk s).rts++h.words) (by simp;omega) hqn (cP 1 aa)) .free aa aa ?_))))
  rintro _ _ ⟨x2,rfl,rfl⟩
  refine ad (cL (aT aa aa aa (aF aa) .free aa (aT aa aa aa (aC (m:=_) fB aa aa) .free aa (aS aa aa (aM [3] (kPs (aO sizeOf121 aa aa aa aa) aa (aK (H':=bX bh bs bt x2 {h with X:=some (h.ncol s)}::_) (fun w hh=>hh) (ad (cZ aa (cM (aj [5,4,0,1] rfl ?_)))))))))))
  refine ac (ac (ab (kPm aa aa (kPm aa aa (ad (aI (df (ι:=Nat×bC×Dev) [39,5,4,0] (fun (k,X,s1)=>((k:Int)≤max n 0)∧(fj X)∧(U64 s1)∧(s1.n=s.n)∧(X.bd=h.bd)∧(0<X.b.rts.length)∧(fV (n.toNat - k) X s1=fV n.toNat (h.ncol s) s)) (fun (k,X,s1)=>[(40,i64 k)]) (fun (k,X,s1)=>bX bh bs bt x2 {h with X:=some X}::dV bs h.S::eu bt h.T::eD x2 X::ax h.bd s1::Fr) (fun (k,X,s1)=>n.toNat - k) (0,h.ncol s,s) (⟨by show(0:Int)≤max n 0;omega,hW.ncol,hW.u,rfl,rfl,mX hW.c hb,rfl⟩) (fun a w st=>st.to ⟨rfl,trivial⟩ (fun hh=>((hh.dp [2,2,3,5]).pk [0,3,1]))) ?_)))))))
  rintro⟨k,X,s1⟩ ⟨hk,hX,hu,hn1,hXbd,hXb,hst⟩
  try simp only at hk hX hu hn1 hXbd hXb hst ⊢
  refine cE (σ':=[(40,i64 k),(39,_),(5,_),(4,_),(0,_)]) (aG aa) (ac (ab (kPv (am aa aa aa) aa (ad (ac ?_)))))
  refine aV aa (fun h41=> ?_) (fun h41=> ?_)
  ·have hkn:(k:Int)<n:=by simpa using h41
   rw[show n.toNat - k=(n.toNat - k - 1)+1 by omega] at hst
   refine aw (ac (aI (ac (ab (kPf fB isAgg121 aa aa aa aa (aM [3,3] ?_))))))
   refine aQ aa (ar call150 aa) ((by have h9:=fun Fr=>kF B Fr x2 X hX s1 hu;simp only[hXbd] at h9;exact h9 _)) .free aa aa ?_ ?_
   rotate_left
   ·rintro _ _ ⟨s9,hm9,rfl,rfl⟩
    exact aX fun w hh=>⟨_,⟨s9,⟨ho,.inl (by rw[hx0, ←hst];exact ol hm9)⟩,rfl,rfl⟩,(show Holds B (ax h.bd s9::_) w from hh).dp [1,1,1]⟩
   rintro _ _ ⟨r,s2,hm,rfl,rfl⟩
   obtain⟨hX2,hu2,hb2,hbd2,hc2,_,_,_⟩:=mx hX hu hm
   have hn2:=(rg hm).trans hn1
   refine ad ?_
   refine aV aa (fun h46=> ?_) (fun h46=> ?_)
   ·have hr:r.1=true:=by simpa using h46
    refine ac (ab (kPm aa aa (aM [2,2,2,0,0] ?_)))
    refine aQ aa (ar call92 aa) (lu B _ bh bs bt x2 {h with X:=some r.2} s2 r.2 aa ho hX2 (by rw[hb2];exact hXb) hu2 ⟨hW.k.w,by rw[hn2];exact hW.k.n,hW.k.d,hW.k.c⟩ hW.tp) .free aa aa ?_ ?_
    rotate_left
    ·rintro _ _ ⟨s9,hm9,rfl,rfl⟩
     exact aX fun w hh=>⟨_,⟨s9,⟨ho,.inr ⟨r.2,s2,by rw[hx0, ←hst];exact kO hm hr,hm9⟩⟩,rfl,rfl⟩,(show Holds B (ax h.bd s9::_) w from hh)⟩
    rintro _ _ ⟨a2,h2,s3,hf2,rfl,rfl⟩
    refine kPa aa aa (kPa aa aa (ad (aj [5,4,40,39,0] rfl (au ?_))))
    exact bz results126 aa aa (fun w hw=>⟨_,⟨true,a2,h2,s3,.inr ⟨ho,r.2,s2,by rw[hx0, ←hst];exact kO hm hr,.inr ⟨rfl,hf2⟩⟩,rfl,rfl⟩,hw⟩)
   ·have hr:¬ r.1=true:=by simpa using h46
    refine aw (ab (kPv (aP aa aa) aa (kPm aa aa (ad (aj [40,39,5,4,0] rfl ?_)))))
    exact fun a w st_=>⟨(k+1,r.2,s2),⟨by simp only;omega,hX2,hu2,hn2,hbd2.trans hXbd,(by rw[hb2];exact hXb),(by rw[←hst,show n.toNat - k=(n.toNat - (k+1))+1 by omega];exact(p9 hm (by simpa using h46)).symm)⟩,by simp only;omega,st_.to (aG aa) (fun hh=>(hh.pk [2,2,2]))⟩
  ·have hkn:¬ (k:Int)<n:=by simpa using h41
   rw[show n.toNat - k=0 by omega] at hst
   refine bJ (ac (ab (kPa aa aa (kPa aa aa (ad (au ?_))))))
   exact bz results126 aa aa (fun w hw=>⟨_,⟨false,0,{h with X:=some X},s1,.inr ⟨ho,X,s1,by rw[hx0, ←hst];rfl,.inl ⟨rfl,rfl,rfl,rfl⟩⟩,rfl,rfl⟩,nw (h:={h with X:=some X}) (bs:=bs) (bt:=bt) (x:=x2) ho hw⟩)
theorem xM(B:World)(Fr:List HP)(bh:Nat)(h:HpS)(s:Dev)(hW:db h s)(hb:(s.block h.c).2=0)(n:Int)(hn:n≤9000000000):
 ∀ w,Holds B (bZ bh h::ax h.bd s::Fr) w→Calls Tryz.prog 126 [ptr bh,i64 n].toArray w (Ret B (fun rv H'=>∃ d a h' s',h.stepR s n d a h' s'∧rv= .tuple #[.bool d,i64 a]∧H'=bZ bh h'::ax h.bd s'::Fr) (fun ch H'=>∃ s',h.stepOff s n s'∧ch=dh∧H'=ax h.bd s'::Fr)):=by
 cases hx:h.X with
 | none=>exact uP B Fr bh h s hW hx hb n hn
 | some X=>exact uO B Fr bh h s hW X hx n hn
end Go.Proofs.YtipdhkmphngmoaaGreatDoor
