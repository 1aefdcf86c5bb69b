/- Part of a law's texts. Conditions: none. -/
import Derived.Test.YtoakdoeajpjgkaaGreatDoorQL18Nl
import Derived.ProofKit
import Derived.OpenShut
import Derived.ChangeOld
import Derived.Below
import Derived.ChangeSlices
import Derived.Deep.Grids
import Derived.Deep.Strs
open Go.Proofs.Tryz
set_option linter.all false
namespace Go.Proofs.YtoakdoeajpjgkaaGreatDoor
open Go
def iL(x:Blk×Int)(b:Blk)(e:Int):Bool:=x.1.act==b.act&&x.1.used==b.used&&x.1.rts==b.rts&&x.2==e
theorem dY{x:Blk×Int}{b:Blk}{e:Int}(h:iL x b e=true):x=(b,e):=by
 obtain⟨⟨a1,a2,a3⟩,a4⟩:=x
 obtain⟨b1,b2,b3⟩:=b
 simp only[iL,Bool.and_eq_true,beq_iff_eq] at h
 obtain⟨⟨⟨rfl,rfl⟩,rfl⟩,rfl⟩:=h
 rfl
def xe(x:Int×Int)(a e:Int):Bool:=x.1==a&&x.2==e
theorem nH{x:Int×Int}{a e:Int}(h:xe x a e=true):x=(a,e):=by
 simp only[xe,Bool.and_eq_true,beq_iff_eq] at h
 exact Prod.ext h.1 h.2
def Cr(x:da×Int)(o:da)(e:Int):Bool:=x.1.1==o.1&&x.1.2.1==o.2.1&&x.1.2.2==o.2.2&&x.2==e
theorem AN{x:da×Int}{o:da}{e:Int}(h:Cr x o e=true):x=(o,e):=by
 simp only[Cr,Bool.and_eq_true,beq_iff_eq] at h
 exact Prod.ext (Prod.ext h.1.1.1 (Prod.ext h.1.1.2 h.1.2)) h.2
theorem iK:bA ⟨3,1,48⟩:=⟨by decide,by decide,by decide,by decide,by decide,by decide⟩
theorem sX:(⟨3,1,48⟩:Cfg)=mkC 0 0 40:=rfl
abbrev c8:Cfg:=⟨3,1,8⟩
abbrev c48:Cfg:=⟨3,1,48⟩
theorem n48{N:Nat}(h:(N:Int)=c48.words):N=136:=by have:(N:Int)=136:=h.trans (by decide);omega
theorem uH(B:World)(Fr:List HP)(bd:Nat)(o:da)(ho:lE o)(i v:Int)(hv:0≤v∧v<18446744073709551616)(s:Dev)(hl:s.pow.lim<0)(hu:U64 s):
 ∀ w_,Holds B (aB bd s::Fr) w_→Calls Tryz.prog 88 [gU o,i64 i,w64 v,.func (.func 145) [ptr bd].toArray #[]].toArray w_ (Ret B (fun rv H'=>∃ x s',iN gk o i false v s ()= .ok (x,()) s'∧rv=i64 x∧s'.pow.lim<0∧s'.n=s.n∧U64 s'∧H'=aB bd s'::Fr) (fun _ _=>False)):=fun w_ hh=>by
 obtain⟨y,s2,hg,_,hg2,hg3⟩:=tA (o:=o) (i:=i) (v:=v) (r:=false) hl
 refine(qe B Fr _ [ptr bd] bd 0 Unit (fun _ _=>pr True) gk _ (ut B bd 0) o ho i v hv s () hu w_ ((hh.unpr (p:=True) trivial).back 1 (by simp))).mono fun en w' h=> ?_
 cases en with
 | returned rv=>
   obtain⟨H,⟨x,e',s',hm,rfl,hok,rfl⟩,hh⟩:=h
   obtain⟨rfl,rfl⟩:y=(x,e')∧s2=s':=by rw[hg] at hm;cases hm;exact⟨rfl,rfl⟩
   exact⟨_,⟨x,s2,hm,rfl,hg2,hg3,hok,rfl⟩,(hh.front 1 aa).tail⟩
 | panicked c=>
   obtain⟨H,⟨s',hm,_⟩,_⟩:=h
   rw[hg] at hm;cases hm
 | outgrown=>exact h
theorem Bx(pa:Nat):okB ((iS pa [] 56).format c8) (fun _ s=>iL (s.block c8) ⟨0,0,[0]⟩ 0)=true:=by kernel_rfl
theorem Bw(pa:Nat):okB ((iS pa [] 56).format c8) (fun _ s=>okB (cN gk c8 2 0 s ()) fun x s1=>xe x.1 40 0&&okB (cN gk c8 5 0 s1 ()) fun y _=>xe y.1 0 4)=true:=by kernel_rfl
theorem zZ(pa:Nat):okB ((iS pa [] 136).format c48) (fun _ s=>okB (gW c48 [(1,2)] s []) fun out sF=>out==[40]&&iL (sF.block c48) ⟨0,3,[0]⟩ 0&&Cr (sF.objOf c48 ⟨0,3,[0]⟩ 40) (2,1,40) 0&&xe (sF.objRead (2,1,40) 0) 0 5&&okB (iN gk (2,1,40) 1 false 9 sF ()) fun a s2=>a.1==0&&xe (s2.objRead (2,1,40) 1) 9 0)=true:=by kernel_rfl
theorem zY(pa:Nat):okB ((iS pa [] 136).format c48) (fun _ s=>okB (gW c48 [(0,1)] s []) fun out sF=>out==[40]&&iL (sF.block c48) ⟨0,2,[0]⟩ 0&&okB (eD c48 ⟨0,2,[0]⟩ (dj [] [40] 0) [40] 0 sF) fun n1 s1=>n1==some 0&&okB (fE c48 (dj [] [40] 0) 1 0 0 s1) fun _ s2=>iL (s2.block c48) ⟨0,2,[0]⟩ 0&&(s2.starts c48 ⟨0,2,[0]⟩).1==[(40,(1,0,40))]&&(s2.starts c48 ⟨0,2,[0]⟩).2==0)=true:=by kernel_rfl
theorem zX(pa:Nat):okB ((iS pa [] 56).format c8) (fun _ s=>s.check c8==0&&okB (s.store 34 5) fun _ s1=>s1.check c8==9)=true:=by kernel_rfl
theorem xT(B:World)(Fr:List HP):
 ∀ w,Holds B Fr w→Calls Tryz.prog 239 [].toArray w (a8 B Fr (.bool true)):=by
 refine ao func239 aa ntmps239 aa (ac (ab (kPa aa aa (ad (ac (ac (ab (aw aa (ar call240 aa) (xU _ _) .free aa aa ?_))))))))
 refine kPv (bu aa) aa (ad (bI aa (rfl) (aq (ac (ab (kPv (aQ aa (dh _ _ _ aa aa aa)) aa (kPb (aD zeroValue134 aa) aa fun b1=>(kPs (az (vs:=_) sizeOf134 aa aa aa aa aa) aa (ad (ac (ab ?_)))))))))))
 refine kPv (ah isAgg134 sizeOf134 aa aa) aa ?_
 refine aJ aa (ar call74 aa) (dR _ _ ⟨3,1,8⟩ f9 none 0 [] (by decide) (fun _ h=>absurd h (Nat.not_lt_zero _)) SlR.nil) .free aa aa ?_
 rintro _ _ ⟨bd,pa,N,s0,hN,hf,rfl,rfl⟩
 obtain rfl:N=56:=by have:(N:Int)=56:=hN.trans (by decide);omega
 have hfm:=pj f9 hN hf
 have hu0:=io (kz pa 56) f9 hf
 refine kPm aa aa (kPv (aA aa aa) aa (kPv (aA aa aa) aa (kPa aa aa (kPa aa aa (ad (an [3,2,1,0] rfl (ac (ac (ab (kPm aa aa (kPv (bu aa) aa ?_)))))))))))
 refine ad (bI aa (rfl) (aq (ac (ab (kPm aa aa (kPv (ah isAgg134 sizeOf134 aa aa) aa ?_))))))
 refine aJ aa (ar call117 aa) (fQ _ _ _ _ ⟨3,1,8⟩ f9 hu0) .free aa aa ?_
 rintro _ _ ⟨sv,hsv,rfl,rfl⟩
 rw[dY (bZ (Bx pa) hf)]
 refine cD fun qv cv hqv hqi=> ?_
 subst hqv
 refine kPm aa aa (kPv (aA aa aa) aa (kPv (aA aa aa) aa (kPb (aD zeroValue151 aa) aa fun b4=> ?_)))
 refine kPs (az (vs:=_) sizeOf151 aa aa aa (by first | rfl | exact eu (by assumption)) rfl) rfl ?_;refine kPa aa aa ?_;refine ad ?_;refine an [5,4,1,0] rfl ?_;refine ac ?_;refine ab ?_;refine kPm aa aa ?_;refine kPv (am aa aa aa) aa ?_;refine kPm aa aa ?_
 refine al aa (aF (m:=_) iu aa aa) (.on aa aa (ae aa)) aa aa (al aa (ai isAgg3 aa aa) (.on aa aa (ae aa)) aa aa (al aa (am aa aa aa) (.on aa aa (ae aa)) aa aa (kPv (ax aa aa aa) aa (kPm aa aa (al aa (aF (m:=_) dA aa aa) (.on aa aa (ae aa)) aa aa (al aa (ai isAgg3 aa aa) (.on aa aa (ae aa)) aa aa (al aa (am aa aa aa) (.on aa aa (ae aa)) aa aa (kPv (ax aa aa aa) aa (kPm aa aa (al aa (aF (m:=_) eV aa aa) (.on aa aa (ae aa)) aa aa (al aa (ai isAgg30 aa aa) (.on aa aa (ae aa)) aa aa ?_)))))))))))
 refine al aa (bE aa runUnderlying30 ⟨_,rfl⟩ rfl) (.on aa aa (ae aa)) aa aa (al aa (am aa aa aa) (.on aa aa (ae aa)) aa aa (kPv (ax aa aa aa) aa (kPm aa aa (al aa (ah isAgg151 sizeOf151 aa aa) (.on aa aa (ae aa)) aa aa ?_))))
 refine al aa (ah isAgg134 sizeOf134 aa aa) (.on aa aa (ae aa)) aa aa ?_
 refine aw aa (ar call137 aa) (ig _ _ ⟨3,1,8⟩ f9 ⟨0,0,[0]⟩ _ ⟨⟨by decide,by decide⟩,⟨by decide,by decide⟩⟩ hsv 3 (by decide)) (.on aa aa (ae aa)) aa aa ?_
 refine al aa (am aa aa aa) (.on aa aa (ae aa)) aa aa (kPv (ax aa aa aa) aa (kPa aa aa (ad (an [0] rfl (ay ?_)))))
 exact au results239 aa (fun w hh=>⟨rfl,(hh.dp [0,0,0,0])⟩)
theorem xS(B:World)(Fr:List HP):
 ∀ w,Holds B Fr w→Calls Tryz.prog 236 [].toArray w (a8 B Fr (.bool true)):=by
 refine ao func236 aa ntmps236 aa (ac (ab (kPa aa aa (ad (ac (ac (ab (aw aa (ar call239 aa) (xT _ _) .free aa aa ?_))))))))
 refine kPv (bu aa) aa (ad (bI aa (rfl) (aq (ac (ab (kPv (aQ aa (dh _ _ _ aa aa aa)) aa (kPb (aD zeroValue134 aa) aa fun b1=>(kPs (az (vs:=_) sizeOf134 aa aa aa aa aa) aa (ad (ac (ab ?_)))))))))))
 refine kPv (ah isAgg134 sizeOf134 aa aa) aa ?_
 refine aJ aa (ar call74 aa) (dR _ _ ⟨3,1,8⟩ f9 none 0 [] (by decide) (fun _ h=>absurd h (Nat.not_lt_zero _)) SlR.nil) .free aa aa ?_
 rintro _ _ ⟨bd,pa,N,s0,hN,hf,rfl,rfl⟩
 obtain rfl:N=56:=by have:(N:Int)=56:=hN.trans (by decide);omega
 have hfm:=pj f9 hN hf
 have hu0:=io (kz pa 56) f9 hf
 refine kPm aa aa (kPv (aA aa aa) aa (kPv (aA aa aa) aa (kPa aa aa (kPa aa aa (ad (an [3,2,1,0] rfl (ac (ac (ab (kPm aa aa (kPv (bu aa) aa ?_)))))))))))
 refine ad (bI aa (rfl) (aq (ac (ab (kPm aa aa (kPv (ah isAgg134 sizeOf134 aa aa) aa ?_))))))
 refine kPv (aQ aa (qR _ aa)) aa (kPm aa aa (kPv (du aa aa) aa (aJ aa (ar call85 aa) (mV _ _ bd ⟨3,1,8⟩ f9 2 0 s0 hfm.lim hu0) .free aa aa ?_)))
 rintro _ _ ⟨x1,s1,hm1,rfl,hl1,hn1,hu1,rfl⟩
 have hev:=bZ (bZ (Bw pa) hf) hm1
 simp only[Bool.and_eq_true] at hev
 rw[nH hev.1]
 refine kPm aa aa (kPv (aA aa aa) aa (kPv (aA aa aa) aa (kPa aa aa (kPa aa aa (ad (an [5,4,2,1,0] rfl (ac (ab (kPm aa aa (kPv (ah isAgg134 sizeOf134 aa aa) aa ?_))))))))))
 refine kPv (aQ aa (qR _ aa)) aa (kPm aa aa (kPv (du aa aa) aa (aJ aa (ar call85 aa) (mV _ _ bd ⟨3,1,8⟩ f9 5 0 s1 hl1 hu1) .free aa aa ?_)))
 rintro _ _ ⟨x2,s2,hm2,rfl,hl2,hn2,hu2,rfl⟩
 rw[show x2=((0:Int),(4:Int)) from nH (bZ hev.2 hm2)]
 refine kPm aa aa (kPv (aA aa aa) aa (kPv (aA aa aa) aa (kPa aa aa (kPa aa aa (ad (an [7,5,4,1,0] rfl (ac (ab (kPm aa aa (kPv (ah isAgg134 sizeOf134 aa aa) aa ?_))))))))))
 refine aw aa (ar call119 aa) (jJ _ _ ⟨3,1,8⟩ f9 0 (by decide) (by decide)) .free aa aa ?_
 refine kPv (am aa aa aa) aa (kPm aa aa (al aa (ak aa) (.on aa aa (ae aa)) aa aa (al aa (am aa aa aa) (.on aa aa (ae aa)) aa aa (kPv (ax aa aa aa) aa (kPm aa aa (al aa (ak aa) (.on aa aa (ae aa)) aa aa (al aa (am aa aa aa) (.on aa aa (ae aa)) aa aa (kPv (ax aa aa aa) aa (kPa aa aa (ad (an [0] rfl ?_)))))))))))
 refine ay ?_
 exact au results236 aa (fun w hh=>⟨rfl,(hh.dp [0,0])⟩)
abbrev DQ(h:Int×Int):List Value:=[u8 h.1,u8 h.2]
theorem px:mZ 2 DQ:=⟨fun _=>rfl,fun _=>rfl⟩
theorem hh1{a b:Int}(h1:0≤a∧a<256)(h2:0≤b∧b<256):∀ h∈[(a,b)],(0≤h.1∧h.1<256)∧(0≤h.2∧h.2<256):=fun h hm=>by rw[List.mem_singleton.1 hm];exact⟨h1,h2⟩
theorem Ca{B:World}{H:List HP}{b:Nat}{x y:Value}{T1:TypeId}{U:List Value→List HP}[fM H b [x,y] T1 U]{cap:Nat}:SlN B H (.slice (some ⟨b,0,none⟩) 1 cap) 2 [[x,y]]:=
 SlN.row (cs:=[[x,y]]) fun i c h=>by
  cases i with
  | zero=>cases h;exact⟨rfl,fun j _=>by rw[Nat.zero_mul,Nat.zero_add,Nat.zero_add]⟩
  | succ i=>cases h
theorem vp(B:World)(Fr:List HP):
 ∀ w,Holds B Fr w→Calls Tryz.prog 229 [].toArray w (a8 B Fr (.bool true)):=by
 refine ao func229 aa ntmps229 aa (ac (ab (kPa aa aa (ad (ac (ac (ab (aw aa (ar call236 aa) (xS _ _) .free aa aa ?_))))))))
 refine kPv (bu aa) aa (ad (bI aa (rfl) (aq (ac (ab (kPv (aQ aa (jl _ aa)) aa (kPv (aQ aa (uf _ _ aa aa)) aa (kPb (lA px (v:=(1,2)) runUnderlying190 sizeOf189 zeroValue189 ⟨⟨by decide,by decide⟩,rfl⟩ rfl aa) aa fun b17=>(aJ aa (ar call168 aa) (qK _ _ 0 0 40 ⟨by decide,by decide,by decide⟩ ⟨3,1,48⟩ sX [(1,2)] (hh1 ⟨by decide,by decide⟩ ⟨by decide,by decide⟩) (by decide) (some ⟨b17,0,none⟩) 1 Ca) .free aa aa ?_)))))))))
 rintro _ _ ⟨bd,pa,N,s0,sF,out,ov,sv,hfm,hN,⟨hus0,hf⟩,hfill,huF,hlF,hnF,hov,hsv,rfl,rfl⟩
 obtain rfl:=n48 hN
 have hev:=bZ (bZ (zZ pa) hf) hfill
 simp only[Bool.and_eq_true,beq_iff_eq] at hev
 obtain⟨⟨⟨⟨rfl,e1⟩,e2⟩,e3⟩,e4⟩:=hev
 rw[dY e1]
 refine aT [2] (cD fun qo co hqo hqi=> ?_)
 subst hqo
 obtain⟨bO,oO,rfl⟩:=hqi 0 (by decide)
 have ho:lE (2,1,40):=⟨⟨by decide,by decide⟩,⟨by decide,by decide⟩,⟨by decide,by decide⟩⟩
 refine kPm aa aa (kPv (aA aa aa) aa (kPv (aA aa aa) aa (kPv (aA aa aa) aa (kPv (aA aa aa) aa (kPb (aD zeroValue134 aa) aa fun b2=>(kPb (aD zeroValue151 aa) aa fun b3=>(kPa aa aa (kPs (az (vs:=_) sizeOf134 aa aa aa aa aa) aa ?_))))))))
 refine kPs (az (vs:=_) sizeOf151 aa aa aa (by first | rfl | exact eu (by assumption)) rfl) rfl ?_;refine kPa aa aa ?_;refine ad ?_;refine an [4,1,3,2,0] rfl ?_;refine ac ?_;refine ac ?_;refine ab ?_;refine kPm aa aa ?_;refine kPv (dw runUnderlying90 aa aa aa) aa ?_;refine kPm aa aa ?_;refine al aa (ak aa) (.on aa aa (ae aa)) aa aa ?_
 refine al aa (bE aa runUnderlying166 ⟨_,rfl⟩ rfl) (.on aa aa (ae aa)) aa aa (al aa (am aa aa aa) (.on aa aa (ae aa)) aa aa (kPv (aH aa aa aa) aa (ad (bI aa (rfl) (aq (ac (aN (H':=dD 3 i64 0 (.slice (some ⟨bO,oO,none⟩) 1 co,[40])::row b3 [i64 0,i64 3,sv] 151::row b2 [i64 3,i64 1,i64 48] 134::cU 0 (sv,[0])::aB bd sF::Fr) (fun w hh=>by have h:=((hh.dp [5]).pk [2]);exact h) ?_)))))))
 refine jI (.br [0,1,2,3,4,5] 6 (.fin [7,8,9,10,11,12]) 10 (.fin [6,7,8,9,11,12])) [6,10,11] [0,1,2,3,4,5,7,8,9] [10,11] [row b2 [i64 3,i64 1,i64 48] 134,row b3 [i64 0,i64 3,sv] 151,dD 3 i64 0 (.slice (some ⟨bO,oO,none⟩) 1 co,[40])] [1,0] (G:=Nat) (fun b5=>[(5,ptr b5),(6,i64 (sF.objOf ⟨3,1,48⟩ ⟨0,3,[0]⟩ 40).2)]) (fun b5=>row b5 [i64 (sF.objOf ⟨3,1,48⟩ ⟨0,3,[0]⟩ 40).1.1,i64 (sF.objOf ⟨3,1,48⟩ ⟨0,3,[0]⟩ 40).1.2.1,i64 (sF.objOf ⟨3,1,48⟩ ⟨0,3,[0]⟩ 40).1.2.2] 160::dD 3 i64 0 (.slice (some ⟨bO,oO,none⟩) 1 co,[40])::row b3 [i64 0,i64 3,sv] 151::row b2 [i64 3,i64 1,i64 48] 134::cU 0 (sv,[0])::aB bd sF::Fr) Tryz.mixed (by kernel_rfl) ?_ ?_
 ·skip
  refine qW (aj aa aa aa (ak aa) .free aa (aj aa aa aa (ah isAgg134 sizeOf134 aa aa) .free aa ?_))
  refine aj aa aa aa (ah isAgg151 sizeOf151 aa aa) .free aa ?_
  refine aj aa aa aa (ak aa) .free aa (aj aa aa aa (bH runUnderlying166 sizeOf3 aa aa (by decide) (by decide)) .free aa (aj aa aa aa (bz (v:=i64 40) isAgg3 (cO 2 aa) aa aa) .free aa (bX ?_)))
  refine lK aa aa ?_ ?_
  ·skip
   refine aw aa (ar call147 aa) (bJ (q:=aB) (fun Fr=>j7 _ Fr _ _ ⟨3,1,48⟩ iK ⟨0,3,[0]⟩ sv ⟨⟨by decide,by decide⟩,⟨by decide,by decide⟩⟩ hsv 40 (by decide))) .free aa aa ?_
   refine ad (si aa (gg (aj aa aa aa (ak aa) .free aa (aj aa aa aa (aA aa aa) .free aa (aj aa aa aa (aA aa aa) .free aa (aS aa aa (kPb (aD zeroValue160 aa) aa fun b5=>(ad (cK (aS aa aa (kPs (az (vs:=_) sizeOf160 aa aa aa aa aa) aa ?_)))))))))))
   refine ad (cK (aP aa aa aa (bj aa) .free aa (bX ?_)))
   exact fun a w st_=>⟨b5,st_.to (aC aa) (fun hh=>hh)⟩
  ·skip
   refine kPb (aD zeroValue160 aa) aa fun b5=>(ad (pQ (gg (aS aa aa (aw aa (ar call147 aa) (bJ (q:=aB) (fun Fr=>j7 _ Fr _ _ ⟨3,1,48⟩ iK ⟨0,3,[0]⟩ sv ⟨⟨by decide,by decide⟩,⟨by decide,by decide⟩⟩ hsv 40 (by decide))) .free aa aa ?_)))))
   refine ad (c6 aa (aj aa aa aa (ak aa) .free aa (aj aa aa aa (aA aa aa) .free aa (aj aa aa aa (aA aa aa) .free aa (aS aa aa (kPs (az (vs:=_) sizeOf160 aa aa aa aa aa) aa (ad (cK (aP aa aa aa (bj aa) .free aa (bX ?_))))))))))
   exact fun a w st_=>⟨b5,st_.to (aC aa) (fun hh=>hh)⟩
 intro b5
 refine cf (σ':=[(5,ptr b5),(6,i64 (sF.objOf ⟨3,1,48⟩ ⟨0,3,[0]⟩ 40).2),(1,_),(0,_)]) (aC aa) (ac ?_)
 rw[show sF.objOf ⟨3,1,48⟩ ⟨0,3,[0]⟩ 40=(((2:Int),(1:Int),(40:Int)),(0:Int)) from AN e2]
 refine ab (kPv (ah isAgg160 sizeOf160 aa aa) aa ?_)
 refine kPm aa aa (aw aa (ar call237 aa) (bJ (q:=aB) (fun Fr=>sP _ Fr _ _ (2,1,40) ho 0)) .free aa aa ?_)
 refine kPm aa aa (kPv (aA aa aa) aa (kPv (aA aa aa) aa (kPa aa aa (kPa aa aa (ad (an [8,5,6,1,0] rfl (ac (ab (kPv (ah isAgg160 sizeOf160 aa aa) aa ?_)))))))))
 refine kPm aa aa (kPv (du aa aa) aa (aT [5] (aJ aa (ar call88 aa) (uH B _ bd (2,1,40) ho 1 9 (by decide) sF hlF huF) .free aa aa ?_)))
 rintro _ _ ⟨x2,s2,hm2,rfl,hl2,hn2,hu2,rfl⟩
 have hev2:=bZ e4 hm2
 simp only[Bool.and_eq_true,beq_iff_eq] at hev2
 obtain⟨f1,f2⟩:=hev2
 obtain rfl:x2=0:=f1
 refine kPa aa aa (ad (ac (ab (kPv (ah isAgg160 sizeOf160 aa aa) aa ?_))))
 refine kPm aa aa (aw aa (ar call237 aa) (bJ (q:=aB) (fun Fr=>sP _ Fr _ _ (2,1,40) ho 1)) .free aa aa ?_)
 refine kPm aa aa (kPv (aA aa aa) aa (kPv (aA aa aa) aa (kPa aa aa (kPa aa aa (ad (an [11,10,9,8,5,6,1,0] rfl (ac ?_)))))))
 rw[show sF.objRead (2,1,40) 0=((0:Int),(5:Int)) from nH e3,show s2.objRead (2,1,40) 1=((9:Int),(0:Int)) from nH f2]
 refine ab (kPm aa aa (kPv (am aa aa aa) aa (kPm aa aa (al aa (ak aa) (.on aa aa (ae aa)) aa aa (al aa (am aa aa aa) (.on aa aa (ae aa)) aa aa (kPv (ax aa aa aa) aa (kPm aa aa (al aa (ak aa) (.on aa aa (ae aa)) aa aa (al aa (am aa aa aa) (.on aa aa (ae aa)) aa aa (kPv (ax aa aa aa) aa (kPm aa aa ?_)))))))))))
 refine al aa (ak aa) (.on aa aa (ae aa)) aa aa (al aa (am aa aa aa) (.on aa aa (ae aa)) aa aa (kPv (ax aa aa aa) aa (kPm aa aa (al aa (ak aa) (.on aa aa (ae aa)) aa aa (al aa (am aa aa aa) (.on aa aa (ae aa)) aa aa (kPv (ax aa aa aa) aa (kPm aa aa (al aa (ah isAgg160 sizeOf160 aa aa) (.on aa aa (ae aa)) aa aa ?_))))))))
 refine al aa (ak aa) (.on aa aa (ae aa)) aa aa (aJ aa (ar call196 aa) (qf _ _ (2,1,40) bd) (.on aa aa (ae aa)) aa aa ?_)
 rintro _ _ ⟨n1,n2,rfl,rfl⟩
 refine al aa (nN runUnderlying282 ⟨_,_,_,rfl⟩ rfl aa aa) (.on aa aa (ae aa)) aa aa (kPv (ax aa aa aa) aa (kPa aa aa (ad (an [0] rfl (ay ?_)))))
 exact au results229 aa (fun w hh=>⟨rfl,(hh.dp [0,0,0,0,0,0,0,0])⟩)
theorem vo(B:World)(Fr:List HP):
 ∀ w,Holds B Fr w→Calls Tryz.prog 216 [].toArray w (a8 B Fr (.bool true)):=by
 refine ao func216 aa ntmps216 aa (ac (ab (kPa aa aa (ad (ac (ac (ab (aw aa (ar call229 aa) (vp _ _) .free aa aa ?_))))))))
 refine kPv (bu aa) aa (ad (bI aa (rfl) (aq (ac (ab (kPv (aQ aa (jl _ aa)) aa (kPv (aQ aa (ia _ aa)) aa (kPb (lA px (v:=(0,1)) runUnderlying190 sizeOf189 zeroValue189 ⟨⟨by decide,by decide⟩,rfl⟩ rfl aa) aa fun b12=>(aJ aa (ar call114 aa) (kO _ _ 0 0 40 ⟨by decide,by decide,by decide⟩ ⟨3,1,48⟩ sX [(0,1)] (hh1 ⟨by decide,by decide⟩ ⟨by decide,by decide⟩) (by decide) (some ⟨b12,0,none⟩) _ Ca none 0 [] SlR.nil (fun _ h=>(by cases h)) (by decide) (fun _ h=>absurd h (Nat.not_lt_zero _)) 0 (by decide)) .free aa aa ?_)))))))))
 rintro _ _ ⟨bd,pa,N,s0,sF,out,hfm,hN,⟨hus0,hf⟩,hfill,hor⟩
 obtain rfl:=n48 hN
 have hev:=bZ (bZ (zY pa) hf) hfill
 simp only[Bool.and_eq_true,beq_iff_eq] at hev
 obtain⟨⟨rfl,e1⟩,e2⟩:=hev
 rw[dY e1] at hor
 rcases hor with ⟨n1,n2,s1,s2,ov,sv,hl1,hl2,hu2,hlm2,hn2,hov,hsv,rfl,rfl⟩ | ⟨s1,hl1,_⟩
 rotate_left
 ·have e3:=bZ e2 hl1
  simp only[Bool.and_eq_true,beq_iff_eq] at e3
  exact absurd e3.1 (by simp)
 have e3:=bZ e2 hl1
 simp only[Bool.and_eq_true,beq_iff_eq] at e3
 obtain⟨e4,e5⟩:=e3
 obtain rfl:n1=0:=by injection e4
 have e6:=bZ e5 hl2
 simp only[Bool.and_eq_true,beq_iff_eq] at e6
 obtain⟨⟨e7,e8⟩,e9⟩:=e6
 rw[dY e7]
 refine aT [2] (cD fun qo co hqo hqi=> ?_)
 subst hqo
 obtain⟨bO,oO,rfl⟩:=hqi 0 (by decide)
 refine kPm aa aa (kPv (aA aa aa) aa (kPv (aA aa aa) aa (kPv (aA aa aa) aa (kPv (aA aa aa) aa (kPb (aD zeroValue134 aa) aa fun b2=>(kPb (aD zeroValue151 aa) aa fun b3=>(kPa aa aa (kPs (az (vs:=_) sizeOf134 aa aa aa aa aa) aa ?_))))))))
 refine kPs (az (vs:=_) sizeOf151 aa aa aa (by first | rfl | exact eu (by assumption)) rfl) rfl ?_;refine kPa aa aa ?_;refine ad ?_;refine an [4,1,3,2,0] rfl ?_;refine ac ?_;refine ac ?_;refine ab ?_;refine kPm aa aa ?_;refine kPv (dw runUnderlying90 aa aa aa) aa ?_;refine kPm aa aa ?_;refine al aa (ak aa) (.on aa aa (ae aa)) aa aa ?_
 refine al aa (ah isAgg134 sizeOf134 aa aa) (.on aa aa (ae aa)) aa aa ?_
 refine al aa (ah isAgg151 sizeOf151 aa aa) (.on aa aa (ae aa)) aa aa ?_
 refine aJ aa (ar call183 aa) (n0 _ _ bd ⟨3,1,48⟩ ⟨0,2,[0]⟩ sv hsv) (.on aa aa (ae aa)) aa aa ?_
 rintro _ _ ⟨c3,c4,c5,rfl,rfl⟩
 refine al aa (nN runUnderlying266 ⟨_,_,_,rfl⟩ rfl aa aa) (.on aa aa (ae aa)) aa aa (kPv (aH aa aa aa) aa (ad (an [26,4,1,3,2,0] rfl (bI aa (rfl) (aq (ac (ab (kPm aa aa (kPv (ah isAgg134 sizeOf134 aa aa) aa ?_)))))))))
 refine kPv (ah isAgg151 sizeOf151 aa aa) aa ?_
 refine aT [7] (aJ aa (ar call180 aa) (nV _ _ bd s2 ⟨3,1,48⟩ iK ⟨0,2,[0]⟩ sv ⟨⟨by decide,by decide⟩,⟨by decide,by decide⟩⟩ hsv) .free aa aa ?_)
 rintro _ _ ⟨mb,rfl,rfl⟩
 rw[e8,e9]
 refine kPm aa aa (kPv (aA aa aa) aa (kPv (aA aa aa) aa (kPa aa aa (kPa aa aa (ad (an [6,5,4,0] rfl (ac (ab (kPm aa aa (kPv (am aa aa aa) aa (kPm aa aa ?_)))))))))))
 refine al aa (ak aa) (.on aa aa (ae aa)) aa aa (al aa (wF aa runUnderlying259 aa) (.on aa aa (ae aa)) aa aa (al aa (am aa aa aa) (.on aa aa (ae aa)) aa aa (kPv (ax aa aa aa) aa (kPm aa aa (al aa (ak aa) (.on aa aa (ae aa)) aa aa (al aa (bE aa runUnderlying166 ⟨_,rfl⟩ rfl) (.on aa aa (ae aa)) aa aa (al aa (am aa aa aa) (.on aa aa (ae aa)) aa aa (kPv (ax aa aa aa) aa (kPm aa aa (al aa (ak aa) (.on aa aa (ae aa)) aa aa (al aa (ak aa) (.on aa aa (ae aa)) aa aa ?_)))))))))))
 refine al aa (bH runUnderlying166 sizeOf3 aa aa (by decide) (by decide)) (.on aa aa (ae aa)) aa aa (al aa (bz (v:=i64 40) isAgg3 (cO 7 aa) aa aa) (.on aa aa (ae aa)) aa aa (al aa ((lu runUnderlying259 runUnderlying3 zeroValue160 aa aa).eq (yT _)) (.on aa aa (ae aa)) aa aa (al aa (xJ runUnderlying160 (t:=102) (off:=0) aa isAgg102 sizeOf102 aa) (.on aa aa (ae aa)) aa aa (al aa (hZ runUnderlying102 (t:=3) (off:=0) aa isAgg3 aa aa) (.on aa aa (ae aa)) aa aa (al aa (am aa aa aa) (.on aa aa (ae aa)) aa aa (kPv (ax aa aa aa) aa (kPa aa aa (ad (an [0] rfl (ay ?_))))))))))
 exact au results216 aa (fun w hh=>⟨rfl,(hh.dp [0,0,0,0,0,0,0,0,0,0])⟩)
def hs2:List (Int×Int):=[(0,1),(0,2)]
theorem hh2:∀ h∈[((0:Int),(1:Int)),(0,2)],(0≤h.1∧h.1<256)∧(0≤h.2∧h.2<256):=fun h hm=>by
 simp only[List.mem_cons,List.not_mem_nil,or_false] at hm
 rcases hm with rfl | rfl<;>exact⟨by decide,by decide⟩
theorem C8{B:World}{H:List HP}{b:Nat}{x y z u:Value}{T1:TypeId}{U:List Value→List HP}[fM H b [x,y,z,u] T1 U]{cap:Nat}:SlN B H (.slice (some ⟨b,0,none⟩) 2 cap) 2 [[x,y],[z,u]]:=
 SlN.row (cs:=[[x,y],[z,u]]) fun i c h=>by
  cases i with
  | zero=>
    cases h
    refine⟨rfl,fun j hj=> ?_⟩
    rcases j with _ | _ | j
    ·rfl
    ·rfl
    ·omega
  | succ i=>
    cases i with
    | zero=>
      cases h
      refine⟨rfl,fun j hj=> ?_⟩
      rcases j with _ | _ | j
      ·rfl
      ·rfl
      ·omega
    | succ i=>cases h
theorem wN{α:Type}{B:World}{σ:Env}{H:List HP}{P:Program}{m:Nat}{enc:α→List Value}(he:mZ m enc){d:Option Tmp}{ty:TypeId}{p:String}{af:Array Edge}{g:Option (Nat×Bool)}{t e:TypeId}{x y:Operand}{v u:α}{xv yv z:Value}(ht:∀ w,(underlying t).run P w= .ok (.slice e) w)(hs:∀ w,(sizeOf e).run P w= .ok m w)(hz:∀ w,(zeroValue e).run P w= .ok z w)(hm0:(0<m∧m≤1000)∧z.cells.size=m)(hx:evO σ x=some xv)(hv:xv.cells=(enc v).toArray)(hy:evO σ y=some yv)(hu:yv.cells=(enc u).toArray):
 Chg P B σ H ⟨d,.buildSlice t 2 #[(0,x),(1,y)],ty,p,af,g⟩ (fun r H'=>∃ b,r= .slice (some ⟨b,0,none⟩) 2 2∧H'=row b (enc v++enc u) e::H):=by
 intro a w kn hh
 refine⟨.value (.slice (some ⟨w.heap.size,0,none⟩) 2 2),{w with heap:=w.heap.push (.cells (enc v++enc u).toArray e)},?_,_,.inl aa,_,⟨_,rfl,rfl⟩,by simpa [row] using hh.new _⟩
 have h1:m≠0:=by omega
 have h2:¬ 16777216<2*m:=by omega
 have hl:(enc v).length=m:=he.len v
 have hl2:(enc u).length=m:=he.len u
 have key:∀ (k:Nat) (vs:List Value) (a:Array Value) (j:Nat),k+vs.length≤a.size→(List.foldl (fun (cs:Array Value) (x:Value×Nat)=>cs.setIfInBounds (k+x.2) x.1) a vs.zipIdx)[j]? =if k≤j∧j<k+vs.length then vs[j - k]? else a[j]? :=by
  intro k vs a j h
  have:=kR vs k a h j
  rw[←this]
  congr 1
  have hz:vs.zipIdx k=vs.zipIdx.map fun x=>(x.1,k+x.2):=by
   apply List.ext_getElem?
   intro i
   simp[List.getElem?_zipIdx]
   cases vs[i]?<;>simp
  rw[hz,List.foldl_map]
 have hsz:∀ (g:Nat→Nat) (l:List (Value×Nat)) (a:Array Value),(List.foldl (fun (cs:Array Value) (x:Value×Nat)=>cs.setIfInBounds (g x.2) x.1) a l).size=a.size:=by
  intro g l
  induction l with
  | nil=>intro a;rfl
  | cons x l ih=>intro a;rw[List.foldl_cons,ih];simp
 simp[execOp,Instr.buildSlice,ht,hs,Instr.fill,cG,hz,kn.eval hx,hv,kn.eval hy,hu,h1,h2,hl,hl2]
 generalize hA:Array.map (fun x=>z.cells[x%z.cells.size]!) (Array.range (2*m))=A
 have hAs:A.size=2*m:=by rw[←hA];simp
 rw[if_neg (by omega),if_neg (by omega),if_neg (by rw[hsz (fun x=>x) _ A];omega)]
 generalize hF:List.foldl (fun (cs:Array Value) (x:Value×Nat)=>cs.setIfInBounds x.snd x.fst) A (enc v).zipIdx=F
 have hFs:F.size=2*m:=by rw[←hF,hsz (fun x=>x) _ A];exact hAs
 have hF2:∀ j,F[j]? =if j<m then (enc v)[j]? else A[j]? :=fun j=>by
  have:=kR (enc v) 0 A (by omega) j
  rw[←hF,this]
  simp[hl]
 have e9:List.foldl (fun (cs:Array Value) (x:Value×Nat)=>cs.setIfInBounds (m+x.snd) x.fst) F (enc u).zipIdx=(enc v++enc u).toArray:=by
  apply Array.ext_getElem?
  intro j
  rw[key m (enc u) F j (by omega),hF2,show(enc v++enc u).toArray[j]? =(enc v++enc u)[j]? by simp,List.getElem?_append,hl,hl2]
  by_cases h3:j<m
  ·rw[if_neg (by omega),if_pos h3,if_pos h3]
  ·rw[if_neg h3]
   by_cases h4:j<m+m
   ·rw[if_pos (by omega),if_neg h3]
   ·rw[if_neg (by omega),if_neg h3,List.getElem?_eq_none (by omega),Array.getElem?_eq_none (by omega)]
 simp only[e9]
 rfl
theorem zW(pa:Nat):okB ((iS pa [] 136).format c48) (fun _ s=>okB (gW c48 [(0,1),(0,2)] s []) fun out sF=>out==[40,42]&&iL (sF.block c48) ⟨0,5,[0]⟩ 0&&okB (eD c48 ⟨0,5,[0]⟩ (dj [] [40,42] 0) [40,42] 0 sF) fun n1 s1=>n1==some 0&&okB (fE c48 (dj [] [40,42] 0) 1 0 0 s1) fun _ s2=>iL (s2.block c48) ⟨0,5,[0]⟩ 0&&s2.reachSize c48 ⟨0,5,[0]⟩ []==0&&s2.reachSize c48 ⟨0,5,[0]⟩ [42]==3)=true:=by kernel_rfl
theorem zV(pa bd:Nat):okB ((iS pa [] 136).format c48) (fun _ s=>okB (gW c48 [(0,1)] s []) fun out sF=>out==[40]&&iL (sF.block c48) ⟨0,2,[0]⟩ 0&&okB (eD c48 ⟨0,2,[0]⟩ (dj [] [40] 0) [40] 0 sF) fun n1 s1=>n1==some 0&&okB (fE c48 (dj [] [40] 0) 1 0 0 s1) fun _ s2=>iL (s2.block c48) ⟨0,2,[0]⟩ 0&&okB ((ef bd c48 ⟨0,2,[0]⟩ [0]).step s2) fun r s3=> !r.1&&okB (r.2.step s3) fun r2 _=>r2.1&&iL (r2.2.block,0) ⟨1,0,[0]⟩ 0)=true:=by kernel_rfl
def BK(o:Option bF)(w v:Int):Bool:=match o with
 | some X=>(bM X.went w).getD 0==v
 | none=>false
theorem zU(pa bd:Nat):okB ((iS pa [] 136).format c48) (fun _ s=>okB (gW c48 [(0,1),(0,2)] s []) fun out sF=>out==[40,42]&&iL (sF.block c48) ⟨0,5,[0]⟩ 0&&okB (eD c48 ⟨0,5,[0]⟩ (dj [] [40,42] 0) [40,42] 0 sF) fun n1 s1=>n1==some 0&&okB (fE c48 (dj [] [40,42] 0) 1 0 0 s1) fun _ s2=>iL (s2.block c48) ⟨0,5,[0]⟩ 0&&(bY bd c48 s2).n==0&&okB (eI bd c48 ⟨bY bd c48 s2,0,0,[],[]⟩ s2 [42]) fun r s3=>r.2.1==0&&BK r.1 42 88&&iL (s3.block c48) ⟨1,3,[0]⟩ 0)=true:=by kernel_rfl
theorem vn(B:World)(Fr:List HP):
 ∀ w,Holds B Fr w→Calls Tryz.prog 201 [].toArray w (a8 B Fr (.bool true)):=by
 refine ao func201 aa ntmps201 aa (ac (ab (kPa aa aa (ad (ac (ac (ab (aw aa (ar call216 aa) (vo _ _) .free aa aa ?_))))))))
 refine kPv (bu aa) aa (ad (bI aa (rfl) (aq (ac (ab (kPv (aQ aa (dh _ _ _ aa aa aa)) aa (kPb (aD zeroValue134 aa) aa fun b1=>(kPs (az (vs:=_) sizeOf134 aa aa aa aa aa) aa (ad (ac (ab ?_)))))))))))
 refine kPv (ah isAgg134 sizeOf134 aa aa) aa ?_
 refine aJ aa (ar call74 aa) (dR _ _ ⟨3,1,8⟩ f9 none 0 [] (by decide) (fun _ h=>absurd h (Nat.not_lt_zero _)) SlR.nil) .free aa aa ?_
 rintro _ _ ⟨bd,pa,N,s0,hN,hf,rfl,rfl⟩
 obtain rfl:N=56:=by have:(N:Int)=56:=hN.trans (by decide);omega
 have hfm:=pj f9 hN hf
 have hu0:=io (kz pa 56) f9 hf
 have hev:=bZ (zX pa) hf
 simp only[Bool.and_eq_true,beq_iff_eq] at hev
 refine kPm aa aa (kPv (aA aa aa) aa (kPv (aA aa aa) aa (kPa aa aa (kPa aa aa (ad (an [3,2,1,0] rfl (ac (ac (ab (kPm aa aa (kPv (bu aa) aa ?_)))))))))))
 refine kPm aa aa (al aa (ak aa) (.on aa aa (ae aa)) aa aa (al aa (ah isAgg134 sizeOf134 aa aa) (.on aa aa (ae aa)) aa aa ?_))
 refine aw aa (ar call130 aa) (bJ (q:=aB) (fun Fr=>kS _ Fr _ s0 ⟨3,1,8⟩ f9 hu0)) (.on aa aa (ae aa)) aa aa ?_
 refine al aa (am aa aa aa) (.on aa aa (ae aa)) aa aa (kPv (aH aa aa aa) aa (ad (an [19,2,1,0] rfl (bI aa (by rw[hev.1];rfl) (aq (ac (ab (kPm aa aa (kPv (ah isAgg134 sizeOf134 aa aa) aa ?_)))))))))
 refine aw aa (ar call171 aa) (lR _ _ ⟨3,1,8⟩ f9 0 (by decide) (by decide)) .free aa aa ?_
 refine aJ aa (ar call145 aa) (oP _ _ bd s0 34 5 hfm.lim hu0 (by decide)) .free aa aa ?_
 rintro _ _ ⟨x1,s1,hm1,rfl,hl1,hn1,hu1,rfl⟩
 have hev2:=bZ hev.2 hm1
 simp only[beq_iff_eq] at hev2
 refine ad (ac (ab (kPm aa aa (kPv (ah isAgg134 sizeOf134 aa aa) aa ?_))))
 refine aw aa (ar call130 aa) (bJ (q:=aB) (fun Fr=>kS _ Fr _ s1 ⟨3,1,8⟩ f9 hu1)) .free aa aa ?_
 refine kPv (am aa aa aa) aa (kPa aa aa (ad (an [0] rfl (ay ?_))))
 exact au results201 aa (fun w hh=>⟨by rw[hev2];rfl,(hh.dp [0,0])⟩)
theorem vm(B:World)(Fr:List HP):
 ∀ w,Holds B Fr w→Calls Tryz.prog 165 [].toArray w (a8 B Fr (.bool true)):=by
 refine ao func165 aa ntmps165 aa (ac (ab (kPa aa aa (ad (ac (ac (ab (aw aa (ar call201 aa) (vn _ _) .free aa aa ?_))))))))
 refine kPv (bu aa) aa (ad (bI aa (rfl) (aq (ac (ab (kPv (aQ aa (jl _ aa)) aa (kPv (aQ aa (ia _ aa)) aa (kPv (aQ aa (ia _ aa)) aa (kPb (wN px (v:=(0,1)) (u:=(0,2)) runUnderlying190 sizeOf189 zeroValue189 ⟨⟨by decide,by decide⟩,rfl⟩ rfl aa aa aa) aa fun b11=>(aJ aa (ar call114 aa) (kO _ _ 0 0 40 ⟨by decide,by decide,by decide⟩ ⟨3,1,48⟩ sX [(0,1),(0,2)] (hh2) (by decide) (some ⟨b11,0,none⟩) _ C8 none 0 [] SlR.nil (fun _ h=>(by cases h)) (by decide) (fun _ h=>absurd h (Nat.not_lt_zero _)) 0 (by decide)) .free aa aa ?_))))))))))
 rintro _ _ ⟨bd,pa,N,s0,sF,out,hfm,hN,⟨hus0,hf⟩,hfill,hor⟩
 obtain rfl:=n48 hN
 have hev:=bZ (bZ (zW pa) hf) hfill
 simp only[Bool.and_eq_true,beq_iff_eq] at hev
 obtain⟨⟨rfl,e1⟩,e2⟩:=hev
 rw[dY e1] at hor
 rcases hor with ⟨n1,n2,s1,s2,ov,sv,hl1,hl2,hu2,hlm2,hn2,hov,hsv,rfl,rfl⟩ | ⟨s1,hl1,_⟩
 rotate_left
 ·have e3:=bZ e2 hl1
  simp only[Bool.and_eq_true,beq_iff_eq] at e3
  exact absurd e3.1 (by simp)
 have e3:=bZ e2 hl1
 simp only[Bool.and_eq_true,beq_iff_eq] at e3
 obtain⟨e4,e5⟩:=e3
 obtain rfl:n1=0:=by injection e4
 have e6:=bZ e5 hl2
 simp only[Bool.and_eq_true,beq_iff_eq] at e6
 obtain⟨⟨e7,e8⟩,e9⟩:=e6
 rw[dY e7]
 refine aT [2] (cD fun qo co hqo hqi=> ?_)
 subst hqo
 obtain⟨bO,oO,rfl⟩:=hqi 0 (by decide)
 refine kPm aa aa (kPv (aA aa aa) aa (kPv (aA aa aa) aa (kPv (aA aa aa) aa (kPv (aA aa aa) aa (kPb (aD zeroValue134 aa) aa fun b2=>(kPb (aD zeroValue151 aa) aa fun b3=>(kPa aa aa (kPs (az (vs:=_) sizeOf134 aa aa aa aa aa) aa ?_))))))))
 refine kPs (az (vs:=_) sizeOf151 aa aa aa (by first | rfl | exact eu (by assumption)) rfl) rfl ?_;refine kPa aa aa ?_;refine ad ?_;refine an [4,1,3,2,0] rfl ?_;refine ac ?_;refine ac ?_;refine ab ?_;refine kPm aa aa ?_;refine kPv (dw runUnderlying90 aa aa aa) aa ?_;refine kPm aa aa ?_;refine al aa (ak aa) (.on aa aa (ae aa)) aa aa ?_
 refine al aa (bE aa runUnderlying166 ⟨_,rfl⟩ rfl) (.on aa aa (ae aa)) aa aa (al aa (am aa aa aa) (.on aa aa (ae aa)) aa aa (kPv (aH aa aa aa) aa (kPm aa aa (al aa (ak aa) (.on aa aa (ae aa)) aa aa (al aa (ah isAgg134 sizeOf134 aa aa) (.on aa aa (ae aa)) aa aa ?_)))))
 refine al aa (ah isAgg151 sizeOf151 aa aa) (.on aa aa (ae aa)) aa aa ?_
 refine aJ aa (ar call154 aa) (r6 _ _ bd ⟨3,1,48⟩ ⟨0,5,[0]⟩ sv hsv (.slice none 0 0) aa) (.on aa aa (ae aa)) aa aa ?_
 rintro _ _ ⟨c1,c2,c3,c4,rfl,rfl⟩
 refine al aa (nN runUnderlying224 ⟨_,_,_,rfl⟩ rfl aa aa) (.on aa aa (ae aa)) aa aa (kPv (aH aa aa aa) aa (ad (an [30,4,1,3,2,0] rfl (bI aa (rfl) (aq (ac (aN (H':=aB bd s2::dD 3 i64 0 (.slice (some ⟨bO,oO,none⟩) 2 co,[40,42])::row b3 [i64 0,i64 5,sv] 151::row b2 [i64 3,i64 1,i64 48] 134::cU 0 (sv,[0])::Fr) (fun w hh=>by have h:=((hh.dp [0,0,0,0,5]).pk [4,2]);exact h) (cP [0,1,2,3,4,5,6,7,8,9,10,11,12,13,14,15,16,17] [3,13,14] [6,7,8] [13] [row b2 [i64 3,i64 1,i64 48] 134,row b3 [i64 0,i64 5,sv] 151,dD 3 i64 0 (.slice (some ⟨bO,oO,none⟩) 2 co,[40,42])] Tryz.mixed (by kernel_rfl) ?_))))))))
 refine aP aa aa aa (ak aa) .free aa (aP aa aa aa (ah isAgg134 sizeOf134 aa aa) .free aa ?_)
 refine aP aa aa aa (ah isAgg151 sizeOf151 aa aa) .free aa ?_
 refine aS aa aa (aw aa (ar call90 aa) (nW B _ bd ⟨3,1,48⟩ iK ⟨0,5,[0]⟩ sv ⟨⟨by decide,by decide⟩,⟨by decide,by decide⟩⟩ hsv s2 none 0 [] (fun _ h=>(by cases h)) (by decide) (fun _ h=>absurd h (Nat.not_lt_zero _)) SlR.nil) .free aa aa ?_)
 refine ad (c6 aa (aP aa aa aa (am aa aa aa) .free aa (aP aa aa aa (ak aa) .free aa (aj aa aa aa (ak aa) (.on aa aa (ae (by rw[e8];rfl))) aa (aj aa aa aa (ah isAgg134 sizeOf134 aa aa) (.on aa aa (ae (by rw[e8];rfl))) aa ?_)))))
 refine aj aa aa aa (ah isAgg151 sizeOf151 aa aa) (.on aa aa (ae (by rw[e8];rfl))) aa ?_
 refine aP aa aa aa (ak aa) (.on aa aa (ae (by rw[e8];rfl))) aa (aP aa aa aa (bH runUnderlying166 sizeOf3 aa aa (by decide) (by decide)) (.on aa aa (ae (by rw[e8];rfl))) aa (aP aa aa aa (bz (v:=i64 42) isAgg3 (cO 1 aa) aa aa) (.on aa aa (ae (by rw[e8];rfl))) aa (aP aa aa aa (cY (c:=42) runUnderlying3 runUnderlying25 aa (by decide)) (.on aa aa (ae (by rw[e8];rfl))) aa (aS aa aa (cL aa (fY runUnderlying30 sizeOf25 zeroValue25 aa aa aa) (.on aa aa (ae (by rw[e8];rfl))) aa aa ?_)))))
 rintro _ _ ⟨b44,rfl,rfl⟩
 refine ad (cK (aT [1] (aS aa aa (aw aa (ar call90 aa) (nW B _ bd ⟨3,1,48⟩ iK ⟨0,5,[0]⟩ sv ⟨⟨by decide,by decide⟩,⟨by decide,by decide⟩⟩ hsv s2 (some ⟨b44,0,none⟩) 1 [42] (fun v h=>by rw[List.mem_singleton.1 h];decide) (by decide) (fun _ _=>⟨_,_,rfl⟩) (SlR.row (b:=b44) aa aa)) (.on aa aa (ae (by rw[e8];rfl))) aa aa ?_))))
 refine ad (c6 aa (aP aa aa aa (am aa aa aa) (.on aa aa (ae (by rw[e8];rfl))) aa (aP aa aa aa (ax aa (by rw[e8];rfl) aa) .free aa (aP aa aa aa (bj aa) .free aa (bX (an [0] rfl (ay ?_)))))))
 exact au results165 aa (fun w hh=>⟨by rw[e9];rfl,(hh.dp [0,0,0,0,0,0])⟩)
theorem vl(B:World)(Fr:List HP):
 ∀ w,Holds B Fr w→Calls Tryz.prog 113 [].toArray w (a8 B Fr (.bool true)):=by
 refine ao func113 aa ntmps113 aa (ac (ab (kPa aa aa (ad (ac (ac (ab (aw aa (ar call165 aa) (vm _ _) .free aa aa ?_))))))))
 refine kPv (bu aa) aa (ad (bI aa (rfl) (aq (ac (ab (kPv (aQ aa (jl _ aa)) aa (kPv (aQ aa (ia _ aa)) aa (kPb (lA px (v:=(0,1)) runUnderlying190 sizeOf189 zeroValue189 ⟨⟨by decide,by decide⟩,rfl⟩ rfl aa) aa fun b13=>(aJ aa (ar call114 aa) (kO _ _ 0 0 40 ⟨by decide,by decide,by decide⟩ ⟨3,1,48⟩ sX [(0,1)] (hh1 ⟨by decide,by decide⟩ ⟨by decide,by decide⟩) (by decide) (some ⟨b13,0,none⟩) _ Ca none 0 [] SlR.nil (fun _ h=>(by cases h)) (by decide) (fun _ h=>absurd h (Nat.not_lt_zero _)) 0 (by decide)) .free aa aa ?_)))))))))
 rintro _ _ ⟨bd,pa,N,s0,sF,out,hfm,hN,⟨hus0,hf⟩,hfill,hor⟩
 obtain rfl:=n48 hN
 have hev:=bZ (bZ (zV pa bd) hf) hfill
 simp only[Bool.and_eq_true,beq_iff_eq] at hev
 obtain⟨⟨rfl,e1⟩,e2⟩:=hev
 rw[dY e1] at hor
 rcases hor with ⟨n1,n2,s1,s2,ov,sv,hl1,hl2,hu2,hlm2,hn2,hov,hsv,rfl,rfl⟩ | ⟨s1,hl1,_⟩
 rotate_left
 ·have e3:=bZ e2 hl1
  simp only[Bool.and_eq_true,beq_iff_eq] at e3
  exact absurd e3.1 (by simp)
 have e3:=bZ e2 hl1
 simp only[Bool.and_eq_true,beq_iff_eq] at e3
 obtain⟨e4,e5⟩:=e3
 obtain rfl:n1=0:=by injection e4
 have e6:=bZ e5 hl2
 simp only[Bool.and_eq_true,beq_iff_eq] at e6
 obtain⟨e7,e8⟩:=e6
 rw[dY e7]
 refine aT [2] (cD fun qo co hqo hqi=> ?_)
 subst hqo
 obtain⟨bO,oO,rfl⟩:=hqi 0 (by decide)
 refine kPm aa aa (kPv (aA aa aa) aa (kPv (aA aa aa) aa (kPv (aA aa aa) aa (kPv (aA aa aa) aa (kPb (aD zeroValue134 aa) aa fun b2=>(kPb (aD zeroValue151 aa) aa fun b3=>(kPa aa aa (kPs (az (vs:=_) sizeOf134 aa aa aa aa aa) aa ?_))))))))
 refine kPs (az (vs:=_) sizeOf151 aa aa aa (by first | rfl | exact eu (by assumption)) rfl) rfl ?_;refine kPa aa aa ?_;refine ad ?_;refine an [4,1,3,2,0] rfl ?_;refine ac ?_;refine ac ?_;refine ab ?_;refine kPm aa aa ?_;refine kPv (dw runUnderlying90 aa aa aa) aa ?_;refine kPm aa aa ?_;refine al aa (ak aa) (.on aa aa (ae aa)) aa aa ?_
 refine al aa (bE aa runUnderlying166 ⟨_,rfl⟩ rfl) (.on aa aa (ae aa)) aa aa (al aa (am aa aa aa) (.on aa aa (ae aa)) aa aa (kPv (aH aa aa aa) aa (ad (an [25,1,3,2,0] rfl (bI aa (rfl) (aq (ac (ab (kPm aa aa (kPv (ah isAgg134 sizeOf134 aa aa) aa ?_))))))))))
 refine kPv (ah isAgg151 sizeOf151 aa aa) aa ?_
 refine kPb (fY runUnderlying30 sizeOf25 zeroValue25 aa aa aa) aa fun b29=>(aT [4] (aJ aa (ar call133 aa) (rQ B _ bd ⟨3,1,48⟩ iK ⟨0,2,[0]⟩ ⟨⟨by decide,by decide⟩,⟨by decide,by decide⟩⟩ sv hsv (some ⟨b29,0,none⟩) 1 [0] (by decide) (fun h=>by cases h) (SlR.row (b:=b29) aa aa)) .free aa aa ?_))
 rintro _ _ ⟨x,rfl,rfl⟩
 have hX0:eY (ef bd ⟨3,1,48⟩ ⟨0,2,[0]⟩ [0]):=lT iK ⟨⟨by decide,by decide⟩,⟨by decide,by decide⟩⟩ (by decide) (fun v h=>by rw[List.mem_singleton.1 h];decide) (fun v h=>by rw[List.mem_singleton.1 h];decide)
 refine kPa aa aa (ad (an [5,0] rfl (ac (ac (ab (kPm aa aa (kPv (dw runUnderlying147 aa aa aa) aa (ad (bI aa (rfl) (aq (ac ?_)))))))))))
 refine ab (kPm aa aa (aT [0,4] ?_))
 refine aU aa (ar call166 aa) (pA B _ x (ef bd ⟨3,1,48⟩ ⟨0,2,[0]⟩ [0]) hX0 s2 hu2) .free aa aa ?_ ?_
 rotate_left
 ·rintro _ _ ⟨s9,hm9,_⟩
  exact(jB e8 hm9).elim
 rintro _ _ ⟨r1,s3,hm1,rfl,rfl⟩
 have e9:=bZ e8 hm1
 simp only[Bool.and_eq_true,Bool.not_eq_true'] at e9
 obtain⟨e10,e11⟩:=e9
 obtain⟨hX1,hu3,_,hbd1,_⟩:=qY hX0 hu2 hm1
 refine aN (H':=eR x r1.2::aB r1.2.bd s3::_) (fun w hh=>by rw[hbd1];exact hh) (kPm aa aa ?_)
 refine aU aa (ar call166 aa) (pA B _ x r1.2 hX1 s3 hu3) .free aa aa ?_ ?_
 rotate_left
 ·rintro _ _ ⟨s9,hm9,_⟩
  exact(jB e11 hm9).elim
 rintro _ _ ⟨r2,s4,hm2,rfl,rfl⟩
 have e12:=bZ e11 hm2
 simp only[Bool.and_eq_true] at e12
 obtain⟨hX2,hu4,_⟩:=qY hX1 hu3 hm2
 have hbl:r2.2.block=⟨1,0,[0]⟩:=congrArg Prod.fst (dY e12.2)
 rw[e10,e12.1]
 refine kPa aa aa (kPa aa aa (ad (ac (ab (kPm aa aa (kPv (bu aa) aa (kPm aa aa (al aa (ak aa) (.on aa aa (ae aa)) aa aa (kPv (ax aa aa aa) aa (kPm aa aa (al aa (ak aa) (.on aa aa (ae aa)) aa aa ?_)))))))))))
 refine aJ aa (ar call167 aa) (mS B _ x r2.2 hX2) (.on aa aa (ae aa)) aa aa ?_
 rintro _ _ ⟨bv5,hbv5,rfl,rfl⟩
 rw[hbl]
 refine al aa (hZ runUnderlying151 (t:=3) (off:=1) aa isAgg3 aa aa) (.on aa aa (ae aa)) aa aa (al aa (am aa aa aa) (.on aa aa (ae aa)) aa aa (kPv (ax aa aa aa) aa (kPm aa aa (al aa (ak aa) (.on aa aa (ae aa)) aa aa (aT [1] (aJ aa (ar call167 aa) (mS B _ x r2.2 hX2) (.on aa aa (ae aa)) aa aa ?_))))))
 rintro _ _ ⟨bv6,hbv6,rfl,rfl⟩
 rw[hbl]
 refine al aa (hZ runUnderlying151 (t:=3) (off:=0) aa isAgg3 aa aa) (.on aa aa (ae aa)) aa aa (al aa (am aa aa aa) (.on aa aa (ae aa)) aa aa (kPv (ax aa aa aa) aa (kPa aa aa (ad (an [0] rfl (ay ?_))))))
 exact au results113 aa (fun w hh=>⟨rfl,(hh.dp [0,0,0,0,0,0,0,0,0])⟩)
theorem vk(B:World)(Fr:List HP):
 ∀ w,Holds B Fr w→Calls Tryz.prog 70 [].toArray w (a8 B Fr (.bool true)):=by
 refine ao func70 aa ntmps70 aa (ac (ab (kPa aa aa (ad (ac (ac (ab (aw aa (ar call113 aa) (vl _ _) .free aa aa ?_))))))))
 refine kPv (bu aa) aa (ad (bI aa (rfl) (aq (ac (ab (kPv (aQ aa (jl _ aa)) aa (kPv (aQ aa (ia _ aa)) aa (kPv (aQ aa (ia _ aa)) aa (kPb (wN px (v:=(0,1)) (u:=(0,2)) runUnderlying190 sizeOf189 zeroValue189 ⟨⟨by decide,by decide⟩,rfl⟩ rfl aa aa aa) aa fun b16=>(aJ aa (ar call114 aa) (kO _ _ 0 0 40 ⟨by decide,by decide,by decide⟩ ⟨3,1,48⟩ sX [(0,1),(0,2)] (hh2) (by decide) (some ⟨b16,0,none⟩) _ C8 none 0 [] SlR.nil (fun _ h=>(by cases h)) (by decide) (fun _ h=>absurd h (Nat.not_lt_zero _)) 0 (by decide)) .free aa aa ?_))))))))))
 rintro _ _ ⟨bd,pa,N,s0,sF,out,hfm,hN,⟨hus0,hf⟩,hfill,hor⟩
 obtain rfl:=n48 hN
 have hev:=bZ (bZ (zU pa bd) hf) hfill
 simp only[Bool.and_eq_true,beq_iff_eq] at hev
 obtain⟨⟨rfl,e1⟩,e2⟩:=hev
 rw[dY e1] at hor
 rcases hor with ⟨n1,n2,s1,s2,ov,sv,hl1,hl2,hu2,hlm2,hn2,hov,hsv,rfl,rfl⟩ | ⟨s1,hl1,_⟩
 rotate_left
 ·have e3:=bZ e2 hl1
  simp only[Bool.and_eq_true,beq_iff_eq] at e3
  exact absurd e3.1 (by simp)
 have e3:=bZ e2 hl1
 simp only[Bool.and_eq_true,beq_iff_eq] at e3
 obtain⟨e4,e5⟩:=e3
 obtain rfl:n1=0:=by injection e4
 have e6:=bZ e5 hl2
 simp only[Bool.and_eq_true,beq_iff_eq] at e6
 obtain⟨⟨e7,e14⟩,e8⟩:=e6
 rw[dY e7]
 refine aT [2] (cD fun qo co hqo hqi=> ?_)
 subst hqo
 obtain⟨bO,oO,rfl⟩:=hqi 0 (by decide)
 refine kPm aa aa (kPv (aA aa aa) aa (kPv (aA aa aa) aa (kPv (aA aa aa) aa (kPv (aA aa aa) aa (kPb (aD zeroValue134 aa) aa fun b2=>(kPb (aD zeroValue151 aa) aa fun b3=>(kPa aa aa (kPs (az (vs:=_) sizeOf134 aa aa aa aa aa) aa ?_))))))))
 refine kPs (az (vs:=_) sizeOf151 aa aa aa (by first | rfl | exact eu (by assumption)) rfl) rfl ?_;refine kPa aa aa ?_;refine ad ?_;refine an [4,1,3,2,0] rfl ?_;refine ac ?_;refine ac ?_;refine ab ?_;refine kPm aa aa ?_;refine kPv (dw runUnderlying90 aa aa aa) aa ?_;refine kPm aa aa ?_;refine al aa (ak aa) (.on aa aa (ae aa)) aa aa ?_
 refine al aa (bE aa runUnderlying166 ⟨_,rfl⟩ rfl) (.on aa aa (ae aa)) aa aa (al aa (am aa aa aa) (.on aa aa (ae aa)) aa aa (kPv (aH aa aa aa) aa (kPm aa aa (al aa (aF (m:=_) dA aa aa) (.on aa aa (ae aa)) aa aa (al aa (ai isAgg3 aa aa) (.on aa aa (ae aa)) aa aa (al aa (am aa aa aa) (.on aa aa (ae aa)) aa aa (kPv (aH aa aa aa) aa (ad (an [33,4,1,2,0] rfl (bI aa (rfl) (aq ?_)))))))))))
 refine ac (ab (kPm aa aa (kPv (ah isAgg134 sizeOf134 aa aa) aa ?_)))
 refine aT [4] (aJ aa (ar call115 aa) (q8 _ _ bd s2 ⟨3,1,48⟩ iK) .free aa aa ?_)
 rintro _ _ ⟨bs,rfl,rfl⟩
 refine kPa aa aa (ad (ac (ac (ab (kP fun bl o1 o2=>(kPm aa aa (kPv (dw runUnderlying146 aa aa aa) aa (kPm aa aa (al aa (ak aa) (.on aa aa (ae aa)) aa aa (al aa (aK aa) (.on aa aa (ae aa)) aa aa (al aa (aF (m:=_) ir aa aa) (.on aa aa (ae aa)) aa aa ?_)))))))))))
 refine al aa (ai isAgg168 aa aa) (.on aa aa (ae aa)) aa aa (al aa (dw runUnderlying168 aa aa aa) (.on aa aa (ae aa)) aa aa (kPv (aH aa aa aa) aa (ad (an [45,5,4,1,2,0] rfl (bI aa (rfl) (aq (ac (aN (fun w hh=>dO (S:=(⟨bY bd ⟨3,1,48⟩ s2,0,0,[],[]⟩:bD)) hh) (aN (H':=fy bs (⟨bY bd ⟨3,1,48⟩ s2,0,0,[],[]⟩:bD)::aB bd s2::row b2 [i64 3,i64 1,i64 48] 134::dD 3 i64 0 (.slice (some ⟨bO,oO,none⟩) 2 co,[40,42])::cU 0 (sv,[0])::Fr) (fun w hh=>by have h:=(hh.dp [2,5]);exact h) (cP [0,1,2,3,4,5,6,7,8,9,10,11,12,13] [7,8] [0,1,2] [7] [row b2 [i64 3,i64 1,i64 48] 134,dD 3 i64 0 (.slice (some ⟨bO,oO,none⟩) 2 co,[40,42])] Tryz.mixed (by kernel_rfl) ?_))))))))))
 refine aj aa aa aa (ak aa) .free aa (aj aa aa aa (ah isAgg134 sizeOf134 aa aa) .free aa ?_)
 refine aj aa aa aa (ak aa) .free aa (aP aa aa aa (ak aa) .free aa (aP aa aa aa (bH runUnderlying166 sizeOf3 aa aa (by decide) (by decide)) .free aa (aP aa aa aa (bz (v:=i64 42) isAgg3 (cO 3 aa) aa aa) .free aa (aP aa aa aa (cY (c:=42) runUnderlying3 runUnderlying25 aa (by decide)) .free aa (aS aa aa (kPb (fY runUnderlying30 sizeOf25 zeroValue25 aa aa aa) aa fun b54=>(ad (cK (aS aa aa (aT [1,1] ?_))))))))))
 refine aU aa (ar call116 aa) (tK B _ bs bd (⟨bY bd ⟨3,1,48⟩ s2,0,0,[],[]⟩:bD) ⟨3,1,48⟩ iK s2 hu2 ⟨iC iK,by rw[hn2];decide,rfl,rfl⟩ (some ⟨b54,0,none⟩) 1 [42] (by decide) (fun v h=>by rw[List.mem_singleton.1 h];decide) (SlR.row (b:=b54) aa aa)) .free aa aa ?_ ?_
 rotate_left
 ·rintro _ _ ⟨s9,hm9,_⟩
  exact(jB e8 hm9).elim
 rintro _ _ ⟨r,s3,hm3,hor⟩
 have e9:=bZ e8 hm3
 simp only[Bool.and_eq_true,beq_iff_eq] at e9
 obtain⟨⟨e10,e11⟩,e12⟩:=e9
 rcases hor with ⟨h1,_⟩ | ⟨x,X,hX,h0,rfl,rfl⟩
 ·rw[h1] at e11;cases e11
 rw[hX] at e11
 have e13:(bM X.went 42).getD 0=88:=by simpa [BK] using e11
 have hu3:=(xN iK (fun v h=>by rw[List.mem_singleton.1 h];decide) (iC iK) hu2 (by rw[hn2];decide) e14 hm3).1
 refine ad (c6 aa (aP aa aa aa (ak aa) .free aa (aP aa aa aa (aA aa aa) .free aa (aP aa aa aa (aA aa aa) .free aa (aP aa aa aa (bj aa) .free aa (aP aa aa aa (bj aa) .free aa (bX (an [7,6,4,1,2,0] rfl (ac (ab (kPm aa aa ?_)))))))))))
 refine kPv (ah isAgg134 sizeOf134 aa aa) aa ?_
 refine aT [2] (aJ aa (ar call117 aa) (fQ _ _ _ _ ⟨3,1,48⟩ iK hu3) .free aa aa ?_)
 rintro _ _ ⟨sv3,hsv3,rfl,rfl⟩
 rw[dY e12]
 refine kPm aa aa (kPv (aA aa aa) aa (kPv (aA aa aa) aa (kPb (aD zeroValue151 aa) aa fun b8=> ?_)))
 refine kPs (az (vs:=_) sizeOf151 aa aa aa (by first | rfl | exact eu (by assumption)) rfl) rfl ?_;refine kPa aa aa ?_;refine ad ?_;refine an [9,8,7,6,4,2,0] rfl ?_;refine ac ?_;refine cM Tryz.mixed (by kernel_rfl) (by kernel_rfl) ?_;refine kQm aa aa ?_;refine kQv (am aa aa aa) aa ?_
 refine kQm aa aa (bg aa (ak aa) (.on aa aa (ae aa)) aa (bg aa (dw runUnderlying147 aa aa aa) (.on aa aa (ae aa)) aa (kQv (ax aa aa aa) aa (kQm aa aa (bg aa (ak aa) (.on aa aa (ae aa)) aa (bg aa (am aa aa aa) (.on aa aa (ae aa)) aa (kQv (ax aa aa aa) aa (kQm aa aa (bg aa (aF (m:=_) iu aa aa) (.on aa aa (ae aa)) aa (bg aa (ai isAgg3 aa aa) (.on aa aa (ae aa)) aa (bg aa (am aa aa aa) (.on aa aa (ae aa)) aa ?_)))))))))))
 refine kQv (ax aa aa aa) aa (kQm aa aa (bg aa (aF (m:=_) dA aa aa) (.on aa aa (ae aa)) aa (bg aa (ai isAgg3 aa aa) (.on aa aa (ae aa)) aa (bg aa (am aa aa aa) (.on aa aa (ae aa)) aa (kQv (ax aa aa aa) aa (kQm aa aa (bg aa (ak aa) (.on aa aa (ae aa)) aa (bg aa (ak aa) (.on aa aa (ae aa)) aa (bg aa (bH runUnderlying166 sizeOf3 aa aa (by decide) (by decide)) (.on aa aa (ae aa)) aa (bg aa (bz (v:=i64 42) isAgg3 (cO 7 aa) aa aa) (.on aa aa (ae aa)) aa (bg aa (cY (c:=42) runUnderlying3 runUnderlying25 aa (by decide)) (.on aa aa (ae aa)) aa ?_)))))))))))
 refine bG aa (ar call118 aa) (bJ (q:=eR) (fun Fr=>tT B Fr x X 42)) (.on aa aa (ae aa)) aa ?_
 refine bg aa (ah isAgg134 sizeOf134 aa aa) (.on aa aa (ae aa)) aa ?_
 refine bG aa (ar call119 aa) (jJ _ _ ⟨3,1,48⟩ iK 1 (by decide) (by decide)) (.on aa aa (ae aa)) aa ?_
 refine bg aa (am aa aa aa) (.on aa aa (ae aa)) aa (kQv (ax aa aa aa) aa (kQa aa aa (cg (an [0] rfl (ay ?_)))))
 exact au results70 aa (fun w hh=>⟨by rw[e13];rfl,(hh.dp [0,0,0,0,0,0,0,0,0])⟩)
theorem Tryz.ownKnobs:ownKnob Tryz.prog.godebug=none:=by kernel_rfl
theorem Tryz.laidOut:laidOutB Tryz.prog=true:=by kernel_rfl
theorem Cv{P:Program}{f:FuncId}{vs:Array Value}{W:World}(h:∀ w,Holds W [old W] w→Calls P f vs w (a8 W [old W] (.bool true))):
 Calls P f vs W (fun e w'=>e= .returned (.bool true)∧RowKit.Below W.heap.size W w'):=(h W (qz W)).mono fun _ _ ⟨h1,h2⟩=>⟨h1,h2.oldb⟩
theorem uj{B:World}{sv:Value}{xs:List Int}{Fr:List HP}{w:World}(h:Holds B (iA 0 (sv,xs)::Fr) w):Holds B (dD 3 i64 0 (sv,xs)::Fr) w:=by
 rcases jG h with ⟨rfl,rfl,h2⟩ | ⟨bd,rest,rfl,h2⟩
 ·exact eJ h2
 ·exact gZ aa aa h2
theorem vj(B:World)(Fr:List HP):
 ∀ w,Holds B Fr w→Calls Tryz.prog 43 [].toArray w (a8 B Fr (.bool true)):=by
 refine ao func43 aa ntmps43 aa (ac (ab (kPa aa aa (ad (ac (ac (ab (aw aa (ar call70 aa) (vk _ _) .free aa aa ?_))))))))
 refine kPv (bu aa) aa (ad (bI aa (rfl) (aq (ac (ab (aJ aa (ar call71 aa) (wo _ _) .free aa aa ?_))))))
 rintro _ _ ⟨tb,rfl,rfl⟩
 refine kPa aa aa (ad (ac (ab (kPm aa aa (kPv (dw runUnderlying130 aa aa aa) aa (kPm aa aa (al aa (ak aa) (.on aa aa (ae aa)) aa aa (dP aa (ar call72 aa) (ki _ _ _ _ _ ⟨by decide,by decide⟩) (.on aa aa (ae aa)) aa aa ?_))))))))
 refine al aa (am aa aa aa) (.on aa aa (ae aa)) aa aa (kPv (ax aa aa aa) aa (kPm aa aa (al aa (ak aa) (.on aa aa (ae aa)) aa aa (dP aa (ar call72 aa) (ki _ _ _ _ _ ⟨by decide,by decide⟩) (.on aa aa (ae aa)) aa aa ?_))))
 refine al aa (am aa aa aa) (.on aa aa (ae aa)) aa aa (kPv (ax aa aa aa) aa (kPm aa aa (al aa (ak aa) (.on aa aa (ae aa)) aa aa (dP aa (ar call72 aa) (ki _ _ _ _ _ ⟨by decide,by decide⟩) (.on aa aa (ae aa)) aa aa ?_))))
 refine al aa (am aa aa aa) (.on aa aa (ae aa)) aa aa (kPv (ax aa aa aa) aa (kPm aa aa (al aa (ak aa) (.on aa aa (ae aa)) aa aa (dP aa (ar call72 aa) (ki _ _ _ _ _ ⟨by decide,by decide⟩) (.on aa aa (ae aa)) aa aa ?_))))
 refine al aa (am aa aa aa) (.on aa aa (ae aa)) aa aa (kPv (ax aa aa aa) aa (kPa aa aa (ad (an [0] rfl (ay ?_)))))
 exact au results43 aa (fun w hh=>⟨rfl,(hh.dp [0])⟩)
structure HpS where
 bd:Nat
 c:Cfg
 S:bD
 o:Bool
 T:gG
 X:Option bF
def nA:Bool→Nat→bD→HP
 | true=>iT
 | false=>fy
def yb(x:Nat):Option bF→HP
 | none=>pr True
 | some X=>eR x X
def DR(x:Nat):Option bF→Value
 | none=> .pointer none
 | some _=>ptr x
abbrev cF(bh bs bt x:Nat)(h:HpS):HP:=row bh [ptr h.bd,i64 h.c.log,i64 h.c.roots,i64 h.c.space,ptr bs,ptr bt,DR x h.X] 149
def dC(bh:Nat)(h:HpS):HP:=hex fun (x:Nat×Nat×Nat)=>grp [cF bh x.1 x.2.1 x.2.2 h,nA h.o x.1 h.S,ga x.2.1 h.T,yb x.2.2 h.X]
section
variable {B:World} {n:Nat} {D:List Deferred} {σ:Env} {Fr:List HP} {K:Act→World→Prop} {bh bs bt x:Nat} {h:HpS} {w:World}
theorem iQ(g:∀ bs bt x,GO B n D σ (cF bh bs bt x h::nA h.o bs h.S::ga bt h.T::yb x h.X::Fr) K):GO B n D σ (dC bh h::Fr) K:=fun a w st=>by
 obtain⟨x,hx⟩:=st.holds.hex
 exact g x.1 x.2.1 x.2.2 a w ⟨st.toStA,hx.grp⟩
theorem ea(hh:Holds B (cF bh bs bt x h::nA h.o bs h.S::ga bt h.T::yb x h.X::Fr) w):Holds B (dC bh h::Fr) w:=
 Holds.unhex (bs,bt,x) (Holds.ungrp (l:=[cF bh bs bt x h,nA h.o bs h.S,ga bt h.T,yb x h.X]) hh)
end
structure dZ(h:HpS)(s:Dev):Prop where
 c:bA h.c
 k:Aq h.S h.bd h.c s
 sw:h.o=true→lD h.S∧h.S.dirty.length≤1000000
 u:U64 s
 t1:0≤h.T.last∧h.T.last≤1000000000
 tl:h.T.at_.length≤800000
 tp:∀ p∈h.T.at_,0≤p.2∧p.2≤1000000
 x:∀ X,h.X=some X→eY X∧X.bd=h.bd∧X.c=h.c∧0<X.b.rts.length
abbrev HpS.blk(h:HpS)(s:Dev):Blk:=(s.block h.c).1
def HpS.obj(h:HpS)(s:Dev)(n:Int):da×Int:=if (bM h.T.at_ n).isSome=true then s.objOf h.c (h.blk s) ((bM h.T.at_ n).getD 0) else ((0,0,0),6)
def HpS.words(h:HpS):List Int:=(cj (h.T.at_.map Prod.fst)).map fun n=>(bM h.T.at_ n).getD 0
theorem gB(B:World)(Fr:List HP)(bh bs bt x:Nat)(h:HpS)(s:Dev)(hc:bA h.c)(hu:U64 s):
 ∀ w,Holds B (cF bh bs bt x h::aB h.bd s::Fr) w→Calls Tryz.prog 81 [ptr bh].toArray w (Ret B (fun rv H'=>∃ sv,aL sv=true∧rv=lB (h.blk s) sv∧H'=cU 0 (sv,(h.blk s).rts)::cF bh bs bt x h::aB h.bd s::Fr) (fun _ _=>False)):=by
 refine ao func81 aa ntmps81 aa (ac (ab (kPb (aD zeroValue151 aa) aa fun b2=>(ad (ac ?_)))))
 refine jI (.br [0,1,2,3,4,5,6,7] 8 (.fin [9,10,11,12,13,14]) 12 (.fin [8,9,10,11,13,14])) [8,12,13] [0,1,2,3,4,5,6,7,9,10,11] [12,13] [cF bh bs bt x h] [] (G:=Nat×Value) (fun (b3,sv)=>[(3,ptr b3),(2,ptr b2)]) (fun (b3,sv)=>row b3 [i64 (h.blk s).act,i64 (h.blk s).used,sv] 151::cU 0 (sv,(h.blk s).rts)::cF bh bs bt x h::aB h.bd s::row b2 [i64 0,i64 0,.slice none 0 0] 151::Fr) Tryz.mixed (by kernel_rfl) ?_ ?_
 ·skip
  refine qW (aj aa aa aa (ak aa) .free aa (aj aa aa aa (aK aa) .free aa (aj aa aa aa (aF (m:=_) iv aa aa) .free aa (aj aa aa aa (ai isAgg90 aa aa) .free aa (aj aa aa aa (ak aa) .free aa (aj aa aa aa (aK aa) .free aa (aj aa aa aa (aF (m:=_) dW aa aa) .free aa (aj aa aa aa (ah isAgg134 sizeOf134 aa aa) .free aa ?_))))))))
  refine bX ?_
  refine lK aa aa ?_ ?_
  ·skip
   refine aT [2] (aJ aa (ar call117 aa) (fQ _ _ _ _ h.c hc hu) .free aa aa ?_)
   rintro _ _ ⟨sv14,hsv14,rfl,rfl⟩
   refine ad (si aa (gg (aj aa aa aa (ak aa) .free aa (aj aa aa aa (aA aa aa) .free aa (aj aa aa aa (aA aa aa) .free aa (aS aa aa (kPb (aD zeroValue151 aa) aa fun b3=>(ad (cK (aS aa aa ?_))))))))))
   refine kPs (az (vs:=_) sizeOf151 aa aa aa (by first | rfl | exact eu (by assumption)) rfl) rfl ?_
   refine ad (cK (aP aa aa aa (bj aa) .free aa (bX ?_)))
   exact fun a w st_=>⟨(b3,sv14),st_.to ⟨rfl,rfl,trivial⟩ (fun hh=>(hh.pk [0,0,2]))⟩
  ·skip
   refine kPb (aD zeroValue151 aa) aa fun b3=>(ad (pQ (gg (aS aa aa (aT [3] (aJ aa (ar call117 aa) (fQ _ _ _ _ h.c hc hu) .free aa aa ?_))))))
   rintro _ _ ⟨sv14,hsv14,rfl,rfl⟩
   refine ad (c6 aa (aj aa aa aa (ak aa) .free aa (aj aa aa aa (aA aa aa) .free aa (aj aa aa aa (aA aa aa) .free aa (aS aa aa ?_)))))
   refine kPs (az (vs:=_) sizeOf151 aa aa aa (by first | rfl | exact eu (by assumption)) rfl) rfl ?_;refine ad ?_;refine cK ?_;refine aP aa aa aa (bj aa) .free aa ?_;refine bX ?_
   exact fun a w st_=>⟨(b3,sv14),st_.to ⟨rfl,rfl,trivial⟩ (fun hh=>(hh.pk [2,0,2]))⟩
 rintro⟨b3,sv⟩
 refine cf (σ':=[(3,ptr b3),(2,ptr b2)]) ⟨rfl,rfl,trivial⟩ (ac (aT [1] (cD fun qv cv hqv hqi=> ?_)))
 subst hqv
 refine ab (kPv (ah isAgg151 sizeOf151 aa aa) aa ?_)
 refine kPs (az (vs:=_) sizeOf151 aa aa aa (by first | rfl | exact eu (by assumption)) rfl) rfl ?_;refine ad ?_;refine ay ?_
 exact p9 results81 (.cellA aa isAgg151 sizeOf151 aa aa) (fun w hw=>⟨_,⟨.slice qv (h.blk s).rts.length cv,rfl,rfl,rfl⟩,(hw.dp [1,3])⟩)
theorem sY{α:Type}{k:Int}{v:α}:∀ {l:List (Int×α)},bM l k=some v→(k,v)∈l
 | [],h=>by cases h
 | q::l,h=>by
   unfold bM at h
   split at h
   ·rename_i e;cases h;rw[←e];exact List.mem_cons_self ..
   ·exact List.mem_cons_of_mem _ (sY h)
theorem dZ.pb{h:HpS}{s:Dev}(hW:dZ h s)(n:Int):0≤(bM h.T.at_ n).getD 0∧(bM h.T.at_ n).getD 0≤1000000:=by
 cases hm:bM h.T.at_ n with
 | none=>simp
 | some v=>exact hW.tp _ (sY hm)
theorem uU(B:World)(Fr:List HP)(bh bs bt x:Nat)(h:HpS)(s:Dev)(hW:dZ h s)(n:Int):
 ∀ w,Holds B (cF bh bs bt x h::ga bt h.T::aB h.bd s::Fr) w→Calls Tryz.prog 87 [ptr bh,i64 n].toArray w (a8 B (cF bh bs bt x h::ga bt h.T::aB h.bd s::Fr) (.tuple #[gU (h.obj s n).1,i64 (h.obj s n).2])):=by
 refine ao func87 aa ntmps87 aa ?_
 have hc:=hW.c
 have hu:=hW.u
 have hbk:=dB (s:=s) hc hu
 have hbl:(h.blk s).rts.length≤16:=fI (s:=s) hc
 refine ac (ab (kPb (aD zeroValue160 aa) aa fun b4=>(kPa aa aa (ad (ac (ab (kPf jg isAgg130 aa aa aa aa (kPm aa aa (aw aa (ar call146 aa) (bJ (q:=ga) (fun Fr=>qy _ Fr bt h.T n)) .free aa aa ?_)))))))))
 refine kPm aa aa (kPv (aA aa aa) aa (kPv (aA aa aa) aa (kPa aa aa (kPa aa aa (ad (an [7,6,5,4,0] rfl (ac (ac (ab (kPm aa aa (kPv (bu aa) aa ?_)))))))))))
 refine ad ?_
 refine aZ aa (fun h18=> ?_) (fun h18=> ?_)
 ·have hk:¬ (bM h.T.at_ n).isSome=true:=by simpa using h18
  have hres:h.obj s n=((0,0,0),6):=by unfold HpS.obj;rw[if_neg hk]
  refine ac (ab (kPv (aQ aa (rU)) aa (kPs (az (vs:=_) sizeOf160 aa aa aa aa aa) aa (kPa aa aa (ad (ay ?_))))))
  exact gi results87 (.cellA aa isAgg160 sizeOf160 aa aa) (.tmp aa) (fun w hw=>⟨by rw[hres];rfl,(hw.dp [0])⟩)
 ·have hk:(bM h.T.at_ n).isSome=true:=by simpa using h18
  have hres:h.obj s n=s.objOf h.c (h.blk s) ((bM h.T.at_ n).getD 0):=by unfold HpS.obj;rw[if_pos hk]
  refine aq (ac (cP [0,1,2,3,4,5,6,7,8,10,9,11,12,13,14,15] [9,11,14] [0,1,2,3,4,5,6,7,10] [9] [cF bh bs bt x h] Tryz.mixed (by kernel_rfl) ?_))
  refine aj aa aa aa (ak aa) .free aa (aj aa aa aa (aK aa) .free aa (aj aa aa aa (aF (m:=_) iv aa aa) .free aa (aj aa aa aa (ai isAgg90 aa aa) .free aa (aj aa aa aa (ak aa) .free aa (aj aa aa aa (aK aa) .free aa (aj aa aa aa (aF (m:=_) dW aa aa) .free aa (aj aa aa aa (ah isAgg134 sizeOf134 aa aa) .free aa ?_)))))))
  refine aP aa aa aa (ak aa) .free aa (aj aa aa aa (ak aa) .free aa (aS aa aa (aT [1,2] (aJ aa (ar call81 aa) (gB B _ bh bs bt x h s hc hu) .free aa aa ?_))))
  rintro _ _ ⟨sv,hsv,rfl,rfl⟩
  refine ad (cK (aS aa aa (aw aa (ar call147 aa) (bJ (q:=aB) (fun Fr=>j7 _ Fr _ _ h.c hc (h.blk s) sv hbk hsv _ (by have:=hW.pb n;omega))) .free aa aa ?_)))
  refine ad (c6 aa (aP aa aa aa (aA aa aa) .free aa (aP aa aa aa (aA aa aa) .free aa (aS aa aa (kPs (az (vs:=_) sizeOf160 aa aa aa aa aa) aa (ad (c6 aa (aP aa aa aa (bj aa) .free aa (bX (an [5,4] rfl (ay ?_)))))))))))
  exact gi results87 (.cellA aa isAgg160 sizeOf160 aa aa) (.tmp aa) (fun w hw=>⟨by rw[hres];rfl,((hw.dp [0,2]).pk [0,1])⟩)
theorem qu(B:World)(Fr:List HP)(bh bs bt x:Nat)(h:HpS)(s:Dev)(hW:dZ h s):
 ∀ w,Holds B (cF bh bs bt x h::ga bt h.T::Fr) w→Calls Tryz.prog 134 [ptr bh].toArray w (Ret B (fun rv H'=>aL rv=true∧H'=cU 0 (rv,h.words)::cF bh bs bt x h::ga bt h.T::Fr) (fun _ _=>False)):=by
 refine ao func134 aa ntmps134 aa ?_
 have hkl:(cj (h.T.at_.map Prod.fst)).length≤800000:=by have:=hW.tl;rw[cj,List.length_mergeSort,List.length_map];exact this
 refine ac (ab (kPa aa aa (ad (ac (ab (kPa aa aa (ad (ac (ac (aN (fun w hh=>eJ (T:=25) (enc:=w64) hh) (ab ?_)))))))))))
 refine kPf jg isAgg130 aa aa aa aa (aT [2] (aJ aa (ar call92 aa) (nj B _ bt h.T (by have:=hW.tl;omega)) .free aa aa ?_))
 rintro rv _ rfl
 refine aN (fun w hh=>uj hh) (cD fun qn cn hqn hqi=> ?_)
 subst hqn
 refine kPv (bE aa runUnderlying166 ⟨_,rfl⟩ rfl) aa (kPm aa aa (ad (aG (cz (ι:=Nat×Value×List Int) [13,12,2,0] (fun (k,sv,ws)=>(k≤(cj (h.T.at_.map Prod.fst)).length)∧(aL sv=true)∧(ws=((cj (h.T.at_.map Prod.fst)).take k).map (fun n=>(bM h.T.at_ n).getD 0))∧(ws.length=k)) (fun (k,sv,ws)=>[(14,i64 k),(3,sv)]) (fun (k,sv,ws)=>dD 25 w64 0 (sv,ws)::dD 3 i64 0 (.slice qn (cj (h.T.at_.map Prod.fst)).length cn,(cj (h.T.at_.map Prod.fst)))::ga bt h.T::cF bh bs bt x h::Fr) (fun (k,sv,ws)=>(cj (h.T.at_.map Prod.fst)).length - k) (0,.slice none 0 0,[]) (⟨Nat.zero_le _,rfl,rfl,rfl⟩) (fun a w st=>st.to ⟨rfl,rfl,trivial⟩ (fun hh=>(hh.pk [2]))) ?_))))
 rintro⟨k,sv,ws⟩ ⟨hk0,hsv,hws,hwl⟩
 try simp only at hk0 hsv hws hwl ⊢
 refine cf (σ':=[(14,i64 k),(3,sv),(13,_),(12,_),(2,_),(0,_)]) (aC aa) (ac (ab (kPv (am aa aa aa) aa (ad (ac ?_)))))
 refine aZ aa (fun h15=> ?_) (fun h15=> ?_)
 ·have hk:k<(cj (h.T.at_.map Prod.fst)).length:=by simpa using h15
  obtain⟨bN,oN,rfl⟩:=hqi k hk
  have hpb:=hW.pb (cj (h.T.at_.map Prod.fst))[k]
  refine aq (ac (aG (ac (ab (kPv (bH runUnderlying166 sizeOf3 aa aa (by omega) (by omega)) aa ?_)))))
  refine kPv (bz (v:=i64 (cj (h.T.at_.map Prod.fst))[k]) isAgg3 (cO 1 aa) aa (by rw[Int.toNat_natCast,List.getElem?_map,List.getElem?_eq_getElem hk];rfl)) aa ?_
  refine kPa aa aa (ad (ac (ab (kPf jg isAgg130 aa aa aa aa (kPm aa aa (aw aa (ar call146 aa) (bJ (q:=ga) (fun Fr=>qy _ Fr bt h.T (cj (h.T.at_.map Prod.fst))[k])) .free aa aa ?_))))))
  refine kPm aa aa (kPv (aA aa aa) aa (kPv (aA aa aa) aa (kPa aa aa (kPa aa aa (ad (an [6,14,3,13,12,2,0] rfl (ab (kPm aa aa (kPm aa aa (kPv (cY runUnderlying3 runUnderlying25 aa (dU (by omega))) aa (kPb (fY runUnderlying30 sizeOf25 zeroValue25 aa aa aa) aa fun b30=> ?_)))))))))))
  refine aT [1,0] (cL aa (ed aa aa runUnderlying30 runUnderlying30 ⟨_,rfl⟩ sizeOf25 zeroValue25 aa (fun _=>rfl) ib aa aa (by omega)) .free aa aa ?_)
  rintro sv9 _ ⟨hsv9,rfl⟩
  refine kPa aa aa (ad (ab (kPv (aM aa aa) aa (kPm aa aa (ad (an [14,3,13,12,2,0] rfl ?_))))))
  exact fun a w st_=>⟨(k+1,sv9,ws++[(bM h.T.at_ (cj (h.T.at_.map Prod.fst))[k]).getD 0]),⟨by omega,hsv9,by rw[List.take_succ_eq_append_getElem hk,List.map_append, ←hws];rfl,by simp[hwl]⟩,by omega,st_.to (aC aa) (fun hh=>hh)⟩
 ·have h9:¬ k<(cj (h.T.at_.map Prod.fst)).length:=by simpa using h15
  have hk:k=(cj (h.T.at_.map Prod.fst)).length:=by omega
  have hres:ws=h.words:=by rw[hws,hk,List.take_length];rfl
  refine bC (ac (ab (kPm aa aa (kPa aa aa (ad (an [2] rfl (ay ?_)))))))
  exact au results134 aa (fun w hw=>⟨_,⟨hsv,rfl⟩,by rw[←hres];exact((hw.dp [1]).pk [0,1])⟩)
theorem A4(B:World)(Fr:List HP)(bh bs bt x:Nat)(h:HpS)(s:Dev)(hW:dZ h s):
 ∀ w,Holds B (cF bh bs bt x h::ga bt h.T::aB h.bd s::Fr) w→Calls Tryz.prog 91 [ptr bh].toArray w (Ret B (fun rv H'=>aL rv=true∧H'=cU 0 (rv,h.words++(h.blk s).rts)::cF bh bs bt x h::ga bt h.T::aB h.bd s::Fr) (fun _ _=>False)):=by
 refine ao func91 aa ntmps91 aa ?_
 have hc:=hW.c
 have hu:=hW.u
 have hbk:=dB (s:=s) hc hu
 have hbl:(h.blk s).rts.length≤16:=fI (s:=s) hc
 have hwl:h.words.length≤800000:=by have:=hW.tl;simp[HpS.words,cj];exact this
 refine ac (ab (kPa aa aa (ad (ac (ab (kPm aa aa (aJ aa (ar call134 aa) (qu B _ bh bs bt x h s hW) .free aa aa ?_)))))))
 rintro wv _ ⟨hwv,rfl⟩
 refine kPm aa aa (aT [1,2] (aJ aa (ar call81 aa) (gB B _ bh bs bt x h s hW.c hW.u) .free aa aa ?_))
 rintro _ _ ⟨sv,hsv,rfl,rfl⟩
 refine cD fun qb cb hqb hqbi=> ?_
 subst hqb
 refine kPv (hZ runUnderlying151 (t:=30) (off:=2) aa isAgg30 aa aa) aa (aT [3] (cL aa (dX (yv:=(.slice qb (h.blk s).rts.length cb)) (ys:=(h.blk s).rts) aa aa runUnderlying30 runUnderlying30 ⟨_,rfl⟩ sizeOf25 zeroValue25 aa (fun _=>rfl) ib aa aa (cO (1 - 1) aa) (by omega)) .free aa aa ?_))
 rintro nv _ ⟨hnv,rfl⟩
 refine kPa aa aa (ad (an [2] rfl (ay ?_)))
 exact au results91 aa (fun w hw=>⟨_,⟨hnv,rfl⟩,((hw.dp [1]).pk [0,0,1])⟩)
section
variable {B:World} {Fr:List HP} {bh bs bt x:Nat} {h:HpS} {w:World}
theorem qC(ho:h.o=true)(hh:Holds B (cF bh bs bt x h::iT bs h.S::ga bt h.T::yb x h.X::Fr) w):Holds B (dC bh h::Fr) w:=ea (bs:=bs) (bt:=bt) (x:=x) (by rw[ho];exact hh)
theorem wp(ho:h.o=false)(hh:Holds B (cF bh bs bt x h::fy bs h.S::ga bt h.T::yb x h.X::Fr) w):Holds B (dC bh h::Fr) w:=ea (bs:=bs) (bt:=bt) (x:=x) (by rw[ho];exact hh)
end
theorem kJ(B:World)(Fr:List HP)(bs:Nat)(S:bD)(o:Bool):∀ w,Holds B (nA o bs S::Fr) w→Calls Tryz.prog 80 [ptr bs].toArray w (a8 B (nA o bs S::Fr) (.bool o)):=by
 cases o
 ·exact my B Fr bs S
 ·exact w7 B Fr bs S
theorem HpS.obj_w{h:HpS}{s:Dev}(hW:dZ h s){n:Int}(e:(h.obj s n).2=0):lE (h.obj s n).1:=by
 unfold HpS.obj at e ⊢
 split at e
 ·rename_i hm
  rw[if_pos hm]
  exact hG hW.c (dB hW.c hW.u) e
 ·cases e
def HpS.commit(h:HpS)(s:Dev):Out (Int×HpS):=if h.o=true then (h.S.commit s).then fun S s=> .ok (0,{h with o:=false,S:=S}) s else .ok (2,h) s
def HpS.alloc(h:HpS)(s:Dev)(w r:Int):Out ((Int×Int)×HpS):=if h.o=true then (cN gh h.c w r s h.S).then fun x s=>if x.1.2≠0 then .ok ((0,x.1.2),{h with S:=x.2}) s else .ok (((h.T.take x.1.1).1,0),{h with S:=x.2,T:=(h.T.take x.1.1).2}) s else .ok ((0,2),h) s
def HpS.write(h:HpS)(s:Dev)(n i v:Int):Out (Int×HpS):=if h.o=true then (if (h.obj s n).2≠0 then .ok ((h.obj s n).2,h) s else (iN gh (h.obj s n).1 i false v s h.S).then fun x s=> .ok (x.1,{h with S:=x.2}) s) else .ok (2,h) s
theorem uS(B:World)(Fr:List HP)(bh:Nat)(h:HpS)(s:Dev)(hW:dZ h s):
 ∀ w,Holds B (dC bh h::aB h.bd s::Fr) w→Calls Tryz.prog 79 [ptr bh].toArray w (a8 B (dC bh h::aB h.bd s::Fr) (i64 (s.check h.c))):=by
 refine ao func79 aa ntmps79 aa (iQ fun bs bt x=>(ac (ab (kPa aa aa (ad (ac (cM Tryz.mixed (by kernel_rfl) (by kernel_rfl) ?_)))))))
 refine kQm aa aa (kQv (aK aa) aa (kQv (aF (m:=_) iv aa aa) aa (kQv (ai isAgg90 aa aa) aa (kQm aa aa (kQv (aK aa) aa (kQv (aF (m:=_) dW aa aa) aa (kQv (ah isAgg134 sizeOf134 aa aa) aa ?_)))))))
 refine bG aa (ar call130 aa) (bJ (q:=aB) (fun Fr=>kS _ Fr h.bd s h.c hW.c hW.u)) .free aa ?_
 refine kQa aa aa (cg (an [2] rfl (ay ?_)))
 exact au results79 aa (fun w hw=>⟨rfl,ea (bs:=bs) (bt:=bt) (x:=x) hw⟩)
theorem dZ.ok{h:HpS}{s:Dev}(hW:dZ h s)(ho:h.o=true):U64 s∧s.n≤1000000∧lD h.S∧h.S.L.d=h.bd∧h.S.L.c=h.c:=⟨hW.u,hW.k.n,(hW.sw ho).1,hW.k.d,hW.k.c⟩
theorem xA(B:World)(Fr:List HP)(bh:Nat)(h:HpS)(s:Dev)(hW:dZ h s)(n i v:Int)(hv:0≤v∧v<18446744073709551616):
 ∀ w,Holds B (dC bh h::aB h.bd s::Fr) w→Calls Tryz.prog 48 [ptr bh,i64 n,i64 i,w64 v].toArray w (Ret B (fun rv H'=>∃ a h' s',h.write s n i v= .ok (a,h') s'∧rv=i64 a∧H'=dC bh h'::aB h.bd s'::Fr) (fun ch H'=>∃ s',h.write s n i v= .off s'∧ch=dQ∧H'=aB h.bd s'::Fr)):=by
 refine ao func48 aa ntmps48 aa (iQ fun bs bt x=>(ac (ab (kPa aa aa (ad (ac (ac (ab (kPf dJ isAgg146 aa aa aa aa (aw aa (ar call80 aa) (bJ (q:=nA h.o) (fun Fr=>kJ B Fr bs h.S h.o)) .free aa aa ?_))))))))))
 refine kPv (bu aa) aa (ad ?_)
 refine aZ aa (fun h16=> ?_) (fun h16=> ?_)
 ·have ho:h.o=false:=by simpa using h16
  have hof:¬ h.o=true:=by rw[ho];decide
  refine ac (ab (kPa aa aa (ad (ay ?_))))
  exact au results48 aa (fun w hw=>⟨_,⟨2,h,s,by unfold HpS.write;rw[if_neg hof],rfl,rfl⟩,ea (bs:=bs) (bt:=bt) (x:=x) hw⟩)
 ·have ho:h.o=true:=by simpa using h16
  refine aT [1] (aN (H':=iT bs h.S::_) (fun w hh=>by rw[ho] at hh;exact hh) (aq (ac (ab (kPm aa aa (kPm aa aa (aT [1,1,2] (aw aa (ar call87 aa) (uU B _ bh bs bt x h s hW n) .free aa aa ?_))))))))
  refine kPm aa aa (kPv (aA aa aa) aa (kPv (aA aa aa) aa (kPb (aD zeroValue160 aa) aa fun b9=>(kPs (az (vs:=_) sizeOf160 aa aa aa aa aa) aa (kPa aa aa (ad (an [10,9,8,0,2,3] rfl (ac (ac (ab (kPm aa aa ?_)))))))))))
  refine kPv (am aa aa aa) aa (ad ?_)
  refine aZ aa (fun h24=> ?_) (fun h24=> ?_)
  ·have hk:(h.obj s n).2≠0:=by simpa using h24
   refine ac (ab (kPm aa aa (kPa aa aa (ad (ay ?_)))))
   exact au results48 aa (fun w hw=>⟨_,⟨(h.obj s n).2,h,s,by unfold HpS.write;rw[if_pos ho,if_pos hk],rfl,rfl⟩,qC (bs:=bs) (bt:=bt) (x:=x) ho ((hw.dp [0]).pk [0,2,0,1])⟩)
  ·have hk:¬ (h.obj s n).2≠0:=by simpa using h24
   have how:=HpS.obj_w hW (n:=n) (by omega)
   refine aq (ac (aN (H':=row b9 [i64 (h.obj s n).1.1,i64 (h.obj s n).1.2.1,i64 (h.obj s n).1.2.2] 160::_) (fun w hh=>hh) (cX 8 Tryz.mixed (by kernel_rfl) (by kernel_rfl) ?_)))
   refine kQv (ah isAgg160 sizeOf160 aa aa) aa ?_
   refine kQm aa aa (kQm aa aa (kQm aa aa (kQv (aK aa) aa (kQv (aF (m:=_) dJ aa aa) aa (kQv (ai isAgg146 aa aa) aa (kQv (du aa aa) aa (cg (aT [3,3] ?_))))))))
   refine aU aa (ar call88 aa) (qe B _ _ _ h.bd bs bD (fun b S=>iT b S) _ _ (ur B h.bd bs h.c) (h.obj s n).1 how i v hv s h.S (hW.ok ho)) .free aa aa ?_ ?_
   rotate_left
   ·rintro _ _ ⟨s9,hm9,rfl,rfl⟩
    exact ba fun w hh=>⟨_,⟨s9,by unfold HpS.write;rw[if_pos ho,if_neg hk,show iN gh (h.obj s n).1 i false v s h.S= .off s9 from hm9];rfl,rfl,rfl⟩,hh.dp [1,1,1,1]⟩
   rintro _ _ ⟨a2,S2,s2,hm2,rfl,hok2,rfl⟩
   refine kPa aa aa (ad (an [8] rfl (ay ?_)))
   exact au results48 aa (fun w hw=>⟨_,⟨a2,{h with S:=S2},s2,by unfold HpS.write;rw[if_pos ho,if_neg hk,show iN gh (h.obj s n).1 i false v s h.S= .ok (a2,S2) s2 from hm2];rfl,rfl,rfl⟩,qC (h:={h with S:=S2,T:=h.T}) (bs:=bs) (bt:=bt) (x:=x) ho ((hw.dp [2]).pk [2,1,1,1])⟩)
theorem uT(B:World)(Fr:List HP)(bh:Nat)(h:HpS)(s:Dev)(hW:dZ h s)(wd rf:Int):
 ∀ w,Holds B (dC bh h::aB h.bd s::Fr) w→Calls Tryz.prog 47 [ptr bh,.agg #[i64 wd,i64 rf]].toArray w (Ret B (fun rv H'=>∃ a h' s',h.alloc s wd rf= .ok (a,h') s'∧rv= .tuple #[i64 a.1,i64 a.2]∧H'=dC bh h'::aB h.bd s'::Fr) (fun ch H'=>∃ s',h.alloc s wd rf= .off s'∧ch=dQ∧H'=aB h.bd s'::Fr)):=by
 refine ao func47 aa ntmps47 aa (iQ fun bs bt x=>(ac (ab (kPb (aY aa) aa fun b3=>(kPa aa aa (kPa aa aa (ad (ac (ac (ab (kPf dJ isAgg146 aa aa aa aa ?_)))))))))))
 refine aw aa (ar call80 aa) (bJ (q:=nA h.o) (fun Fr=>kJ B Fr bs h.S h.o)) .free aa aa ?_
 refine kPv (bu aa) aa (ad ?_)
 refine aZ aa (fun h13=> ?_) (fun h13=> ?_)
 ·have ho:h.o=false:=by simpa using h13
  have hof:¬ h.o=true:=by rw[ho];decide
  refine ac (ab (kPa aa aa (kPa aa aa (ad (an [5,4,3,0] rfl (ay ?_))))))
  exact bS results47 aa aa (fun w hw=>⟨_,⟨(0,2),h,s,by unfold HpS.alloc;rw[if_neg hof],rfl,rfl⟩,ea (bs:=bs) (bt:=bt) (x:=x) (hw.dp [0])⟩)
 ·have ho:h.o=true:=by simpa using h13
  refine aT [2] (aN (H':=iT bs h.S::_) (fun w hh=>by rw[ho] at hh;exact hh) (aq (ac (wA [14] Tryz.mixed (by kernel_rfl) (by kernel_rfl) ?_))))
  refine BO (kQm aa aa (kQv (aK aa) aa (kQv (aF (m:=_) iv aa aa) aa (kQv (ai isAgg90 aa aa) aa (kQm aa aa (kQv (aK aa) aa (kQv (aF (m:=_) dW aa aa) aa (kQv (ah isAgg134 sizeOf134 aa aa) aa ?_))))))))
  refine kQv (ah isAgg102 sizeOf102 aa aa) aa ?_
  refine kQm aa aa (kQv (aK aa) aa (kQv (aF (m:=_) dJ aa aa) aa (kQv (ai isAgg146 aa aa) aa (kQv (du aa aa) aa (cg (aT [5,0] ?_))))))
  refine aU aa (ar call85 aa) (ui B _ _ _ h.bd bs bD (fun b S=>iT b S) _ _ (ur B h.bd bs h.c) h.c hW.c wd rf s h.S (hW.ok ho)) .free aa aa ?_ ?_
  rotate_left
  ·rintro _ _ ⟨s9,hm9,rfl,rfl⟩
   exact ba fun w hh=>⟨_,⟨s9,by unfold HpS.alloc;rw[if_pos ho,show cN gh h.c wd rf s h.S= .off s9 from hm9];rfl,rfl,rfl⟩,hh.dp [1,1,1,1]⟩
  rintro _ _ ⟨⟨at2,a2⟩,S2,s2,hm2,rfl,hok2,rfl⟩
  refine ad (BP (kQm aa aa (kQv (aA aa aa) aa (kQv (aA aa aa) aa (kQa aa aa (kQa aa aa (cg (an [7,6,5,4,0] rfl (ac (ac (ab ?_)))))))))))
  refine kPm aa aa (kPv (am aa aa aa) aa (ad ?_))
  refine aZ aa (fun h33=> ?_) (fun h33=> ?_)
  ·have ha2:a2≠0:=by simpa using h33
   refine ac (ab (kPm aa aa (kPa aa aa (kPa aa aa (ad (ay ?_))))))
   exact bS results47 aa aa (fun w hw=>⟨_,⟨(0,a2),{h with S:=S2},s2,by unfold HpS.alloc;rw[if_pos ho,show cN gh h.c wd rf s h.S= .ok ((at2,a2),S2) s2 from hm2];simp only[aR];rw[if_pos ha2],rfl,rfl⟩,qC (h:={h with S:=S2,T:=h.T}) (bs:=bs) (bt:=bt) (x:=x) ho ((hw.dp [2]).pk [2,1,1,1])⟩)
  ·have ha2:¬ a2≠0:=by simpa using h33
   refine aq (ac (ab (kPf jg isAgg130 aa aa aa aa (kPm aa aa (aT [4] (dP aa (ar call72 aa) (ki B _ bt h.T at2 hW.t1) .free aa aa ?_))))))
   refine kPa aa aa (kPa aa aa (ad (an [5,4] rfl (ay ?_))))
   exact bS results47 aa aa (fun w hw=>⟨_,⟨((h.T.take at2).1,0),{h with S:=S2,T:=(h.T.take at2).2},s2,by unfold HpS.alloc;rw[if_pos ho,show cN gh h.c wd rf s h.S= .ok ((at2,a2),S2) s2 from hm2];simp only[aR];rw[if_neg ha2],rfl,rfl⟩,qC (h:={h with S:=S2,T:=(h.T.take at2).2}) (bs:=bs) (bt:=bt) (x:=x) ho ((hw.dp [3]).pk [3,2,0,1])⟩)
def p4(X:bF)(p:Int):Int:=(bM X.went p).getD 0
def HpS.finR(h:HpS)(X:bF)(s:Dev)(a:Int)(h':HpS)(s':Dev):Prop:=∃ S',ja h.c X.block h.S s= .ok (a,S') s'∧
 ((a≠0∧h'={h with X:=none,S:=S'})∨(a=0∧∃ ord:List (Int×Int),ord.Perm h.T.at_∧h'={h with X:=none,S:=S',T:=gG.moved (p4 X) h.T.last ord}))
def HpS.colR(h:HpS)(s:Dev)(a:Int)(h':HpS)(s':Dev):Prop:=(h.o=true∧a=2∧h'=h∧s'=s)∨(h.o=false∧∃ X s1,(ef h.bd h.c (h.blk s) ((h.blk s).rts++h.words)).run s= .ok X s1∧h.finR X s1 a h' s')
def HpS.colOff(h:HpS)(s s':Dev):Prop:=h.o=false∧((ef h.bd h.c (h.blk s) ((h.blk s).rts++h.words)).run s= .off s'∨∃ X s1,(ef h.bd h.c (h.blk s) ((h.blk s).rts++h.words)).run s= .ok X s1∧ja h.c X.block h.S s1= .off s')
theorem tq{B:World}{Fr:List HP}{bh bs bt x:Nat}{h:HpS}{w:World}(ho:h.o=false)(hx:h.X=none)(hh:Holds B (cF bh bs bt x h::fy bs h.S::ga bt h.T::Fr) w):Holds B (dC bh h::Fr) w:=
 wp (bs:=bs) (bt:=bt) (x:=x) ho (by rw[hx];exact(hh.unpr (p:=True) trivial).back 3 (by simp))
theorem tw(B:World)(Fr:List HP)(bh:Nat)(h:HpS)(s:Dev)(hW:dZ h s)(ho:h.o=true):
 ∀ w,Holds B (dC bh h::aB h.bd s::Fr) w→Calls Tryz.prog 49 [ptr bh].toArray w (Ret B (fun rv H'=>∃ a h' s',h.commit s= .ok (a,h') s'∧rv=i64 a∧H'=dC bh h'::aB h.bd s'::Fr) (fun ch H'=>∃ s',h.commit s= .off s'∧ch=dQ∧H'=aB h.bd s'::Fr)):=by
 refine ao func49 aa ntmps49 aa (iQ fun bs bt x=>(aT [1] (aN (H':=iT bs h.S::_) (fun w hh=>by rw[ho] at hh;exact hh) (aT [0,3] (aN (H':=iT bs h.S::aB h.S.L.d s::_) (fun w hh=>by rw[hW.k.d];exact hh) (ac (ab (kPa aa aa (ad (ac (ab ?_)))))))))))
 refine kPf dJ isAgg146 aa aa aa aa ?_
 refine aU aa (ar call89 aa) (m9 B _ bs h.S s (hW.sw ho).1 (hW.sw ho).2) .free aa aa ?_ ?_
 rotate_left
 ·rintro _ _ ⟨s9,hm9,rfl,rfl⟩
  exact ba fun w hh=>⟨_,⟨s9,by unfold HpS.commit;rw[if_pos ho,hm9];rfl,rfl,rfl⟩,by rw[hW.k.d] at hh;exact hh.dp [1,1,1]⟩
 rintro _ _ ⟨S2,s2,hm2,rfl,rfl⟩
 refine kPa aa aa (ad (ay ?_))
 exact au results49 aa (fun w hw=>⟨_,⟨0,{h with o:=false,S:=S2},s2,by unfold HpS.commit;rw[if_pos ho,hm2];rfl,rfl,rfl⟩,by rw[hW.k.d] at hw;exact wp (h:={h with o:=false,S:=S2}) (bs:=bs) (bt:=bt) (x:=x) aa (hw.pk [2,0,1,1])⟩)
theorem tx(B:World)(Fr:List HP)(bh:Nat)(h:HpS)(s:Dev)(hW:dZ h s)(ho:h.o=false):
 ∀ w,Holds B (dC bh h::aB h.bd s::Fr) w→Calls Tryz.prog 49 [ptr bh].toArray w (Ret B (fun rv H'=>∃ a h' s',h.commit s= .ok (a,h') s'∧rv=i64 a∧H'=dC bh h'::aB h.bd s'::Fr) (fun ch H'=>∃ s',h.commit s= .off s'∧ch=dQ∧H'=aB h.bd s'::Fr)):=by
 refine ao func49 aa ntmps49 aa (iQ fun bs bt x=>(aT [1] (aN (H':=fy bs h.S::_) (fun w hh=>by rw[ho] at hh;exact hh) (ac (ab (kPa aa aa (ad (ac (ab (kPf dJ isAgg146 aa aa aa aa (aw aa (ar call89 aa) (bJ (q:=fy) (fun Fr=>sy B Fr bs h.S)) .free aa aa ?_)))))))))))
 refine kPa aa aa (ad (ay ?_))
 exact au results49 aa (fun w hw=>⟨_,⟨2,h,s,by unfold HpS.commit;rw[if_neg (by rw[ho];decide)],rfl,rfl⟩,wp (bs:=bs) (bt:=bt) (x:=x) ho (hw.pk [1])⟩)
theorem uW(B:World)(Fr:List HP)(bh:Nat)(h:HpS)(s:Dev)(hW:dZ h s):∀ w,Holds B (dC bh h::aB h.bd s::Fr) w→Calls Tryz.prog 49 [ptr bh].toArray w (Ret B (fun rv H'=>∃ a h' s',h.commit s= .ok (a,h') s'∧rv=i64 a∧H'=dC bh h'::aB h.bd s'::Fr) (fun ch H'=>∃ s',h.commit s= .off s'∧ch=dQ∧H'=aB h.bd s'::Fr)):=by
 cases ho:h.o
 ·exact tx B Fr bh h s hW ho
 ·exact tw B Fr bh h s hW ho
theorem ze(B:World)(Fr:List HP)(c1 x:Nat)(X:bF)(p:Int)(hp:0≤p∧p≤1000000):
 ∀ w,Holds B (row c1 [ptr x] 147::eR x X::Fr) w→Calls Tryz.prog 187 [i64 p,ptr c1].toArray w (a8 B (row c1 [ptr x] 147::eR x X::Fr) (i64 (p4 X p))):=by
 refine ao func187 aa ntmps187 aa (ac (ab (kPa aa aa (ad (ac (ab (kPv (ai isAgg147 aa aa) aa (kPm aa aa (kPv (cY runUnderlying3 runUnderlying25 aa (dU (by omega))) aa (aw aa (ar call118 aa) (bJ (q:=eR) (fun Fr=>tT B Fr x X p)) .free aa aa ?_))))))))))
 refine kPa aa aa (ad (ay ?_))
 exact au results187 aa (fun w hw=>⟨rfl,hw⟩)
theorem AR(B:World)(c1 x:Nat)(X:bF):B2 B 187 [] [ptr c1] Unit (fun _=>[row c1 [ptr x] 147,eR x X]) (fun p=>0≤p∧p≤1000000) (p4 X) (fun _ e=>e) where
 enter:=call187
 says:=fun Fr p e hp w hw=>(ze B Fr c1 x X p hp w hw).mono fun en w' h=>by
  obtain⟨rfl,h⟩:=h
  exact⟨_,⟨rfl,rfl⟩,h⟩
theorem uV(B:World)(Fr:List HP)(bh bs bt x:Nat)(h:HpS)(s:Dev)(X:bF)(hx:h.X=some X)(ho:h.o=false)(hX:eY X)(hrl0:0<X.b.rts.length)(hu:U64 s)(hK:Aq h.S h.bd h.c s)(htp:∀ p∈h.T.at_,0≤p.2∧p.2≤1000000):
 ∀ w,Holds B (cF bh bs bt x h::fy bs h.S::ga bt h.T::eR x X::aB h.bd s::Fr) w→Calls Tryz.prog 136 [ptr bh].toArray w (Ret B (fun rv H'=>∃ a h' s',h.finR X s a h' s'∧rv=i64 a∧H'=dC bh h'::aB h.bd s'::Fr) (fun ch H'=>∃ s',ja h.c X.block h.S s= .off s'∧ch=dQ∧H'=aB h.bd s'::Fr)):=by
 refine ao func136 aa ntmps136 aa (aN (H':=row bh [ptr h.bd,i64 h.c.log,i64 h.c.roots,i64 h.c.space,ptr bs,ptr bt,ptr x] 149::_) (fun w hh=>by have h9:=hh;unfold cF at h9;rw[hx] at h9;exact h9) (ac (ab (kPa aa aa (ad (ac (ab (kPf kw isAgg147 aa aa aa aa (kPb (ck zeroValue147 aa) aa fun b3=> ?_)))))))))
 refine kPs (aO sizeOf147 aa aa (by first | rfl | assumption) rfl) rfl ?_;refine ad ?_;refine ac ?_;refine ab ?_;refine kPm aa aa ?_;refine kPv (aK aa) aa ?_;refine kPv (aF (m:=_) kw aa aa) aa ?_
 refine kPs (aO sizeOf147 aa aa (by first | rfl | assumption) rfl) rfl ?_;refine ad ?_;refine an [3,2,0] rfl ?_;refine ac ?_;refine ac ?_;refine aT [1,0] ?_;refine aN (H':=cF bh bs bt x {h with X:=none}::row b3 [ptr x] 147::_) (fun w hh=>hh) ?_;refine cX 13 Tryz.mixed (by kernel_rfl) (by kernel_rfl) ?_;refine kQm aa aa ?_;refine kQv (aK aa) aa ?_;refine kQv (aF (m:=_) iv aa aa) aa ?_
 refine kQv (ai isAgg90 aa aa) aa (kQm aa aa (kQv (aK aa) aa (kQv (aF (m:=_) dW aa aa) aa (kQv (ah isAgg134 sizeOf134 aa aa) aa ?_))))
 refine kQm aa aa (kQv (aK aa) aa (kQv (aF (m:=_) dJ aa aa) aa (kQv (ai isAgg146 aa aa) aa (kQv (ai isAgg147 aa aa) aa (cg (aT [2,3,3] ?_))))))
 refine aU aa (ar call172 aa) (wB B _ bs x h.bd h.S X hX hrl0 h.c s hu hK) .free aa aa ?_ ?_
 rotate_left
 ·rintro _ _ ⟨s9,hm9,rfl,rfl⟩
  exact ba fun w hh=>⟨_,⟨s9,hm9,rfl,rfl⟩,hh.dp [1,1,1]⟩
 rintro _ _ ⟨a2,S2,s2,hm2,rfl,rfl⟩
 refine kPa aa aa (ad (an [4,3,2,0] rfl (ac (ab (kPm aa aa (kPv (am aa aa aa) aa (ad ?_)))))))
 refine aZ aa (fun h27=> ?_) (fun h27=> ?_)
 ·have ha2:a2≠0:=by simpa using h27
  refine ac (ab (kPm aa aa (kPa aa aa (ad (ay ?_)))))
  exact au results136 aa (fun w hw=>⟨_,⟨a2,{h with X:=none,S:=S2},s2,⟨S2,hm2,.inl ⟨ha2,rfl⟩⟩,rfl,rfl⟩,tq (h:={h with X:=none,S:=S2}) (bs:=bs) (bt:=bt) (x:=x) ho aa ((hw.dp [1,3]).pk [2,0,1])⟩)
 ·have ha2:a2=0:=by simpa using h27
  refine aq (ac (ab (kPf jg isAgg130 aa aa aa aa (kPv (du aa aa) aa (aT [5,4,1] (aJ aa (ar call186 aa) ((fun w hh=>xC B _ bt h.T _ [] [ptr b3] Unit _ _ _ _ (AR B b3 x X) htp () w hh)) .free aa aa ?_))))))
  rintro _ _ ⟨ord,hperm,rfl⟩
  refine aN (H':=ga bt (gG.moved (p4 X) h.T.last ord)::row b3 [ptr x] 147::eR x X::fy bs S2::aB h.bd s2::cF bh bs bt x {h with X:=none}::Fr) (fun w hh=>hh) (ad (an [2] rfl (ac (ab (kPa aa aa (ad (ay ?_)))))))
  exact au results136 aa (fun w hw=>⟨_,⟨0,{h with X:=none,S:=S2,T:=gG.moved (p4 X) h.T.last ord},s2,⟨S2,by rw[←ha2];exact hm2,.inr ⟨rfl,ord,hperm,rfl⟩⟩,rfl,rfl⟩,tq (h:={h with X:=none,S:=S2,T:=gG.moved (p4 X) h.T.last ord}) (bs:=bs) (bt:=bt) (x:=x) ho aa ((hw.dp [1,1]).pk [3,1])⟩)
theorem uM{k:Int}{v:Int}:∀ {l:List (Int×Int)} {p:Int×Int},p∈mset l k v→p.2=v∨p∈l
 | [],p,h=>by
   simp only[mset,List.mem_singleton] at h
   exact .inl (by rw[h])
 | q::l,p,h=>by
   unfold mset at h
   split at h
   ·rcases List.mem_cons.1 h with h | h
    ·exact .inl (by rw[h])
    ·exact .inr (List.mem_cons_of_mem _ h)
   ·rcases List.mem_cons.1 h with h | h
    ·exact .inr (by rw[h];exact List.mem_cons_self ..)
    ·exact(uM h).imp id (List.mem_cons_of_mem _)
theorem vX{to_:Int→Int}{P:Int→Prop}(hP:∀ p,P (to_ p)):∀ (ord:List (Int×Int)) (x:List (Int×Int)×List (Int×Int)),(∀ p∈x.1,P p.2)→(∀ p∈(ord.foldl (dt to_) x).1,P p.2)∧(ord.foldl (dt to_) x).1.length≤x.1.length+ord.length
 | [],x,h=>⟨h,by simp⟩
 | a::t,x,h=>by
   simp only[List.foldl_cons,List.length_cons]
   have hx:(∀ p∈(dt to_ x a).1,P p.2)∧(dt to_ x a).1.length≤x.1.length+1:=by
    unfold dt
    split
    ·refine⟨fun p hp=> ?_,oS ..⟩
     rcases uM hp with e | e
     ·rw[e];exact hP _
     ·exact h p e
    ·exact⟨h,by omega⟩
   have:=vX hP t _ hx.1
   exact⟨this.1,by omega⟩
theorem dZ.moved{h:HpS}{s s':Dev}(hW:dZ h s){to_:Int→Int}(hto:∀ p,0≤to_ p∧to_ p≤1000000){ord:List (Int×Int)}(hp:ord.Perm h.T.at_){S':bD}(hL:dF S'.L)(hd:S'.L.d=h.bd)(hc:S'.L.c=h.c)(hu:U64 s')(hn:s'.n=s.n):dZ {h with X:=none,o:=false,S:=S',T:=gG.moved to_ h.T.last ord} s':=by
 obtain⟨g1,g2⟩:=vX (to_:=to_) (P:=fun v=>0≤v∧v≤1000000) hto ord ([],[]) (fun _ h=>by cases h)
 exact⟨hW.c,⟨hL,by rw[hn];exact hW.k.n,hd,hc⟩,fun h=>(by cases h),hu,hW.t1,by
  show(ord.foldl (dt to_) ([],[])).1.length≤_
  have h1:=hp.length_eq;have h2:=hW.tl
  simp only[List.length_nil] at g2;omega,g1,fun X hX=>(by cases hX)⟩
theorem HpS.words_b{h:HpS}{s:Dev}(hW:dZ h s):(∀ v∈h.words,0≤v∧v<18446744073709551616)∧h.words.length≤800000:=
 ⟨fun v hv=>by
  obtain⟨n,_,rfl⟩:=List.mem_map.1 hv
  have:=hW.pb n;omega,by have:=hW.tl;simp[HpS.words,cj];exact this⟩
abbrev HpS.ncol(h:HpS)(s:Dev):bF:=ef h.bd h.c (h.blk s) ((h.blk s).rts++h.words)
theorem dZ.ncol{h:HpS}{s:Dev}(hW:dZ h s):eY (h.ncol s):=
 lT hW.c (dB hW.c hW.u) (fI hW.c) (fH hW.u) (fun v hv=>by
  rcases List.mem_append.1 hv with hv | hv
  ·exact fH hW.u v hv
  ·exact(HpS.words_b hW).1 v hv)
theorem Dm{h:HpS}{s s1:Dev}{X:bF}{a:Int}{h':HpS}{s':Dev}(hW:dZ h s)(ho:h.o=false)(hX:eY X)(hu:U64 s1)(hn:s1.n=s.n)(e:h.finR X s1 a h' s'):dZ h' s'∧h'.o=false∧h'.X=none∧h'.bd=h.bd∧h'.c=h.c:=by
 obtain⟨S',e1,hor⟩:=e
 obtain⟨k1,k2,k3,k4,k5,_⟩:=zt (t6 hX) hW.k.w hu (by rw[hn];exact hW.k.n) e1
 rcases hor with ⟨_,rfl⟩ | ⟨_,ord,hp,rfl⟩
 ·exact⟨⟨hW.c,⟨k3,by rw[k2,hn];exact hW.k.n,k4.trans hW.k.d,k5.trans hW.k.c⟩,fun h2=>(by rw[show h.o=true from h2] at ho;cases ho),k1,hW.t1,hW.tl,hW.tp,fun X hX=>(by cases hX)⟩,ho,rfl,rfl,rfl⟩
 ·have h1:=hW.moved (fun p=>hX.vb p) hp k3 (k4.trans hW.k.d) (k5.trans hW.k.c) k1 (k2.trans hn)
  rw[←ho] at h1
  exact⟨h1,ho,rfl,rfl,rfl⟩
theorem Dw{h:HpS}{s:Dev}{a:Int}{h':HpS}{s':Dev}(hW:dZ h s)(ho:h.o=false)(e:h.colR s a h' s'):dZ h' s'∧h'.o=false∧h'.X=none∧h'.bd=h.bd∧h'.c=h.c:=by
 rcases e with ⟨h1,_⟩ | ⟨_,X,s1,e1,e2⟩
 ·rw[ho] at h1;cases h1
 ·obtain⟨g1,g2,_⟩:=oy _ _ _ _ _ hW.ncol hW.u e1
  exact Dm hW ho g1 g2 (vM e1) e2
theorem rx(B:World)(Fr:List HP)(bh:Nat)(h:HpS)(s:Dev)(hW:dZ h s)(hb:(s.block h.c).2=0):
 ∀ w,Holds B (dC bh h::aB h.bd s::Fr) w→Calls Tryz.prog 82 [ptr bh].toArray w (Ret B (fun rv H'=>∃ a h' s',h.colR s a h' s'∧rv=i64 a∧H'=dC bh h'::aB h.bd s'::Fr) (fun ch H'=>∃ s',h.colOff s s'∧ch=dQ∧H'=aB h.bd s'::Fr)):=by
 refine ao func82 aa ntmps82 aa (iQ fun bs bt x=> ?_)
 have hbk:=dB (s:=s) hW.c hW.u
 have hbl:(h.blk s).rts.length≤16:=fI (s:=s) hW.c
 obtain⟨hwb,hwl⟩:=HpS.words_b hW
 refine ac (ab (kPa aa aa (ad (ac (ac (ab (kPf dJ isAgg146 aa aa aa aa (aw aa (ar call80 aa) (bJ (q:=nA h.o) (fun Fr=>kJ B Fr bs h.S h.o)) .free aa aa ?_))))))))
 refine ad ?_
 refine aZ aa (fun h8=> ?_) (fun h8=> ?_)
 ·have ho:h.o=true:=by simpa using h8
  refine ac (ab (kPa aa aa (ad (ay ?_))))
  exact au results82 aa (fun w hw=>⟨_,⟨2,h,s,.inl ⟨ho,rfl,rfl,rfl⟩,rfl,rfl⟩,ea (bs:=bs) (bt:=bt) (x:=x) hw⟩)
 ·have ho:h.o=false:=by simpa using h8
  refine aT [1] (aN (H':=fy bs h.S::_) (fun w hh=>by rw[ho] at hh;exact hh) (aq (ac (ab (kPm aa aa (aT [1,3] (aJ aa (ar call81 aa) (gB B _ bh bs bt x h s hW.c hW.u) .free aa aa ?_)))))))
  rintro _ _ ⟨sv,hsv,rfl,rfl⟩
  refine cD fun qb cb hqb hqbi=> ?_
  subst hqb
  refine kPb (aD zeroValue151 aa) aa fun b3=> ?_
  refine kPs (az (vs:=_) sizeOf151 aa aa aa (by first | rfl | exact eu (by assumption)) rfl) rfl ?_;refine ad ?_;refine an [3,2,0] rfl ?_;refine ac ?_;refine aN (H':=row b3 [i64 (h.blk s).act,i64 (h.blk s).used,.slice qb (h.blk s).rts.length cb] 151::_) (fun w hh=>hh) ?_
  refine cP [0,1,2,3,4,5,6,7,8,9,11,12,14,10,13,15,16,17,18,19,20] [10,13,15,16,17,20] [0,1,2,3,4,5,6,7,8,9,11,12,14] [10,13,15,16,17] [cF bh bs bt x h,row b3 [i64 (h.blk s).act,i64 (h.blk s).used,.slice qb (h.blk s).rts.length cb] 151] Tryz.mixed (by kernel_rfl) ?_
  refine aj aa aa aa (ak aa) .free aa (aj aa aa aa (ak aa) .free aa (aj aa aa aa (aK aa) .free aa (aj aa aa aa (aF (m:=_) iv aa aa) .free aa (aj aa aa aa (ai isAgg90 aa aa) .free aa (aj aa aa aa (ak aa) .free aa (aj aa aa aa (aK aa) .free aa (aj aa aa aa (aF (m:=_) dW aa aa) .free aa (aj aa aa aa (ah isAgg134 sizeOf134 aa aa) .free aa ?_))))))))
  refine aj aa aa aa (ah isAgg151 sizeOf151 aa aa) .free aa ?_
  refine aj aa aa aa (aF (m:=_) eV aa aa) .free aa (aj aa aa aa (ai isAgg30 aa aa) .free aa (aj aa aa aa (ak aa) .free aa (aS aa aa (kPb (u9 runUnderlying30 sizeOf25) aa fun b21=>(aN (H':=cU 0 (.slice (some ⟨b21,0,none⟩) 0 0,[])::_) (fun w hh=>gZ (xs:=[]) aa aa hh) (ad (cK (aS aa aa (cL aa (dX (yv:= .slice qb (h.blk s).rts.length cb) (ys:=(h.blk s).rts) aa aa runUnderlying30 runUnderlying30 ⟨_,rfl⟩ sizeOf25 zeroValue25 aa (fun _=>rfl) ib aa aa (cO (2 - 1) aa) (by simp;omega)) .free aa aa ?_)))))))))
  rintro nv2 _ ⟨hnv2,rfl⟩
  refine ad (cK (aS aa aa (aT [3,5] (aJ aa (ar call134 aa) (qu B _ bh bs bt x h s hW) .free aa aa ?_))))
  rintro wv _ ⟨hwv,rfl⟩
  refine cD fun qw cw hqw hqwi=> ?_
  subst hqw
  refine ad (cK (aS aa aa (aT [3] (cL aa (dX (yv:= .slice qw h.words.length cw) (ys:=h.words) aa aa runUnderlying30 runUnderlying30 ⟨_,rfl⟩ sizeOf25 zeroValue25 aa (fun _=>rfl) ib aa aa (cO (1 - 1) aa) (by simp;omega)) .free aa aa ?_))))
  rintro nv3 _ ⟨hnv3,rfl⟩
  refine cD fun qn cn hqn0 hqni=> ?_
  subst hqn0
  have hqn:qn=none→(h.blk s).rts++h.words=[]:=fun e=>by
   cases hl:(h.blk s).rts++h.words with
   | nil=>rfl
   | cons a t=>
     obtain⟨b,o,h⟩:=hqni 0 (by show 0<((h.blk s).rts++h.words).length;rw[hl];exact Nat.succ_pos _)
     rw[e] at h;cases h
  refine ad (cK (aS aa aa (aT [5] (aJ aa (ar call133 aa) (rQ B _ h.bd h.c hW.c (h.blk s) hbk (.slice qb (h.blk s).rts.length cb) aa qn cn ((h.blk s).rts++h.words) (by simp;omega) hqn (cO 1 aa)) .free aa aa ?_))))
  rintro _ _ ⟨x2,rfl,rfl⟩
  refine ad (cK (aP aa aa aa (aK aa) .free aa (aP aa aa aa (aF (m:=_) kw aa aa) .free aa (aS aa aa (aT [3] (kPs (aO sizeOf147 aa aa aa aa) aa (aN (H':=cF bh bs bt x2 {h with X:=some (h.ncol s)}::_) (fun w hh=>hh) (ad (c6 aa (bX (an [2,0] rfl ?_)))))))))))
  refine ac (ab (kPf kw isAgg147 aa aa aa aa (aT [1,5] ?_)))
  refine aU aa (ar call135 aa) (wL B _ x2 (h.ncol s) hW.ncol s hW.u) .free aa aa ?_ ?_
  rotate_left
  ·rintro _ _ ⟨s9,hm9,rfl,rfl⟩
   exact ba fun w hh=>⟨_,⟨s9,⟨ho,.inl hm9⟩,rfl,rfl⟩,(show Holds B (aB h.bd s9::_) w from hh).dp [1,1,1,1,1,1,1]⟩
  rintro _ _ ⟨X,s1,hm1,rfl,rfl⟩
  obtain⟨hX1,hu1,hXb,hXbd,hXc,_⟩:=oy _ _ _ _ _ hW.ncol hW.u hm1
  have hn1:=vM hm1
  refine aN (H':=eR x2 X::aB h.bd s1::_) (fun w hh=>hh) (ad (ac (aT [2] (aN (H':=cF bh bs bt x2 {h with X:=some X}::_) (fun w hh=>hh) (ab (kPm aa aa (aT [0,6,4,0,0] ?_)))))))
  refine aU aa (ar call136 aa) (uV B _ bh bs bt x2 {h with X:=some X} s1 X aa ho hX1 (by rw[hXb];exact qQ hW.c hb) hu1 ⟨hW.k.w,by rw[hn1];exact hW.k.n,hW.k.d,hW.k.c⟩ hW.tp) .free aa aa ?_ ?_
  rotate_left
  ·rintro _ _ ⟨s9,hm9,rfl,rfl⟩
   exact ba fun w hh=>⟨_,⟨s9,⟨ho,.inr ⟨X,s1,hm1,hm9⟩⟩,rfl,rfl⟩,(show Holds B (aB h.bd s9::_) w from hh).dp [1,1,1,1]⟩
  rintro _ _ ⟨a2,h2,s2,hf2,rfl,rfl⟩
  refine kPa aa aa (ad (an [2] rfl (ay ?_)))
  exact au results82 aa (fun w hw=>⟨_,⟨a2,h2,s2,.inr ⟨ho,X,s1,hm1,hf2⟩,rfl,rfl⟩,(hw.dp [2,2,2,2])⟩)
end Go.Proofs.YtoakdoeajpjgkaaGreatDoor
