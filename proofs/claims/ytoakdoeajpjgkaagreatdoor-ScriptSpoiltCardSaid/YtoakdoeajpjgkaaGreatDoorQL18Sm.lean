/- Part of a law's texts. Conditions: none. -/
import Derived.Test.YtoakdoeajpjgkaaGreatDoorQL18Sl
import Derived.ProofKit
import Derived.OpenShut
import Derived.ChangeOld
import Derived.Below
import Derived.ChangeSlices
import Derived.Deep.Grids
import Derived.Deep.Strs
open Go.Proofs.Tryz
set_option linter.all false
namespace Go.Proofs.YtoakdoeajpjgkaaGreatDoor
open Go
def iN(x:Blk×Int)(b:Blk)(e:Int):Bool:=x.1.act==b.act&&x.1.used==b.used&&x.1.rts==b.rts&&x.2==e
theorem ee{x:Blk×Int}{b:Blk}{e:Int}(h:iN x b e=true):x=(b,e):=by
 obtain⟨⟨a1,a2,a3⟩,a4⟩:=x
 obtain⟨b1,b2,b3⟩:=b
 simp only[iN,Bool.and_eq_true,beq_iff_eq] at h
 obtain⟨⟨⟨rfl,rfl⟩,rfl⟩,rfl⟩:=h
 rfl
def xz(x:Int×Int)(a e:Int):Bool:=x.1==a&&x.2==e
theorem nP{x:Int×Int}{a e:Int}(h:xz x a e=true):x=(a,e):=by
 simp only[xz,Bool.and_eq_true,beq_iff_eq] at h
 exact Prod.ext h.1 h.2
def CQ(x:db×Int)(o:db)(e:Int):Bool:=x.1.1==o.1&&x.1.2.1==o.2.1&&x.1.2.2==o.2.2&&x.2==e
theorem A9{x:db×Int}{o:db}{e:Int}(h:CQ x o e=true):x=(o,e):=by
 simp only[CQ,Bool.and_eq_true,beq_iff_eq] at h
 exact Prod.ext (Prod.ext h.1.1.1 (Prod.ext h.1.1.2 h.1.2)) h.2
theorem iM:bA ⟨3,1,48⟩:=⟨by decide,by decide,by decide,by decide,by decide,by decide⟩
theorem tz:(⟨3,1,48⟩:Cfg)=mkC 0 0 40:=rfl
abbrev c8:Cfg:=⟨3,1,8⟩
abbrev c48:Cfg:=⟨3,1,48⟩
theorem n48{N:Nat}(h:(N:Int)=c48.words):N=136:=by have:(N:Int)=136:=h.trans (by decide);omega
theorem uW(B:World)(Fr:List HP)(bd:Nat)(o:db)(ho:lL o)(i v:Int)(hv:0≤v∧v<18446744073709551616)(s:Dev)(hl:s.pow.lim<0)(hu:U64 s):
 ∀ w_,Holds B (aB bd s::Fr) w_→Calls Tryz.prog 88 [gX o,i64 i,w64 v,.func (.func 145) [ptr bd].toArray #[]].toArray w_ (Ret B (fun rv H'=>∃ x s',iO gn o i false v s ()= .ok (x,()) s'∧rv=i64 x∧s'.pow.lim<0∧s'.n=s.n∧U64 s'∧H'=aB bd s'::Fr) (fun _ _=>False)):=fun w_ hh=>by
 obtain⟨y,s2,hg,_,hg2,hg3⟩:=tQ (o:=o) (i:=i) (v:=v) (r:=false) hl
 refine(qu B Fr _ [ptr bd] bd 0 Unit (fun _ _=>pr True) gn _ (uK B bd 0) o ho i v hv s () hu w_ ((hh.unpr (p:=True) trivial).back 1 (by simp))).mono fun en w' h=> ?_
 cases en with
 | returned rv=>
   obtain⟨H,⟨x,e',s',hm,rfl,hok,rfl⟩,hh⟩:=h
   obtain⟨rfl,rfl⟩:y=(x,e')∧s2=s':=by rw[hg] at hm;cases hm;exact⟨rfl,rfl⟩
   exact⟨_,⟨x,s2,hm,rfl,hg2,hg3,hok,rfl⟩,(hh.front 1 aa).tail⟩
 | panicked c=>
   obtain⟨H,⟨s',hm,_⟩,_⟩:=h
   rw[hg] at hm;cases hm
 | outgrown=>exact h
theorem BS(pa:Nat):okB ((iT pa [] 56).format c8) (fun _ s=>iN (s.block c8) ⟨0,0,[0]⟩ 0)=true:=by kernel_rfl
theorem BR(pa:Nat):okB ((iT pa [] 56).format c8) (fun _ s=>okB (cO gn c8 2 0 s ()) fun x s1=>xz x.1 40 0&&okB (cO gn c8 5 0 s1 ()) fun y _=>xz y.1 0 4)=true:=by kernel_rfl
theorem Aq(pa:Nat):okB ((iT pa [] 136).format c48) (fun _ s=>okB (hJ c48 [(1,2)] s []) fun out sF=>out==[40]&&iN (sF.block c48) ⟨0,3,[0]⟩ 0&&CQ (sF.objOf c48 ⟨0,3,[0]⟩ 40) (2,1,40) 0&&xz (sF.objRead (2,1,40) 0) 0 5&&okB (iO gn (2,1,40) 1 false 9 sF ()) fun a s2=>a.1==0&&xz (s2.objRead (2,1,40) 1) 9 0)=true:=by kernel_rfl
theorem Ap(pa:Nat):okB ((iT pa [] 136).format c48) (fun _ s=>okB (hJ c48 [(0,1)] s []) fun out sF=>out==[40]&&iN (sF.block c48) ⟨0,2,[0]⟩ 0&&okB (eG c48 ⟨0,2,[0]⟩ (dj [] [40] 0) [40] 0 sF) fun n1 s1=>n1==some 0&&okB (fI c48 (dj [] [40] 0) 1 0 0 s1) fun _ s2=>iN (s2.block c48) ⟨0,2,[0]⟩ 0&&(s2.starts c48 ⟨0,2,[0]⟩).1==[(40,(1,0,40))]&&(s2.starts c48 ⟨0,2,[0]⟩).2==0)=true:=by kernel_rfl
theorem Ao(pa:Nat):okB ((iT pa [] 56).format c8) (fun _ s=>s.check c8==0&&okB (s.store 34 5) fun _ s1=>s1.check c8==9)=true:=by kernel_rfl
theorem yg(B:World)(Fr:List HP):
 ∀ w,Holds B Fr w→Calls Tryz.prog 239 [].toArray w (a8 B Fr (.bool true)):=by
 refine ao func239 aa ntmps239 aa (ac (ab (kPa aa aa (ad (ac (ac (ab (ay aa (ar call240 aa) (yh _ _) .free aa aa ?_))))))))
 refine kPv (bx aa) aa (ad (bJ aa (rfl) (aq (ac (ab (kPv (aP aa (dh _ _ _ aa aa aa)) aa (kPb (aD zeroValue134 aa) aa fun b1=>(kPs (ax (vs:=_) sizeOf134 aa aa aa aa aa) aa (ad (ac (ab ?_)))))))))))
 refine kPv (ah isAgg134 sizeOf134 aa aa) aa ?_
 refine aI aa (ar call74 aa) (dS _ _ ⟨3,1,8⟩ ge none 0 [] (by decide) (fun _ h=>absurd h (Nat.not_lt_zero _)) SlR.nil) .free aa aa ?_
 rintro _ _ ⟨bd,pa,N,s0,hN,hf,rfl,rfl⟩
 obtain rfl:N=56:=by have:(N:Int)=56:=hN.trans (by decide);omega
 have hfm:=pz ge hN hf
 have hu0:=ir (kG pa 56) ge hf
 refine kPm aa aa (kPv (aA aa aa) aa (kPv (aA aa aa) aa (kPa aa aa (kPa aa aa (ad (an [3,2,1,0] rfl (ac (ac (ab (kPm aa aa (kPv (bx aa) aa ?_)))))))))))
 refine ad (bJ aa (rfl) (aq (ac (ab (kPm aa aa (kPv (ah isAgg134 sizeOf134 aa aa) aa ?_))))))
 refine aI aa (ar call117 aa) (fU _ _ _ _ ⟨3,1,8⟩ ge hu0) .free aa aa ?_
 rintro _ _ ⟨sv,hsv,rfl,rfl⟩
 rw[ee (ce (BS pa) hf)]
 refine cE fun qv cv hqv hqi=> ?_
 subst hqv
 refine kPm aa aa (kPv (aA aa aa) aa (kPv (aA aa aa) aa (kPb (aD zeroValue151 aa) aa fun b4=> ?_)))
 refine kPs (ax (vs:=_) sizeOf151 aa aa aa (by first | rfl | exact dW (by assumption)) rfl) rfl ?_;refine kPa aa aa ?_;refine ad ?_;refine an [5,4,1,0] rfl ?_;refine ac ?_;refine ab ?_;refine kPm aa aa ?_;refine kPv (am aa aa aa) aa ?_;refine kPm aa aa ?_
 refine al aa (aE (m:=_) ix aa aa) (.on aa aa (ae aa)) aa aa (al aa (ai isAgg3 aa aa) (.on aa aa (ae aa)) aa aa (al aa (am aa aa aa) (.on aa aa (ae aa)) aa aa (kPv (aw aa aa aa) aa (kPm aa aa (al aa (aE (m:=_) dA aa aa) (.on aa aa (ae aa)) aa aa (al aa (ai isAgg3 aa aa) (.on aa aa (ae aa)) aa aa (al aa (am aa aa aa) (.on aa aa (ae aa)) aa aa (kPv (aw aa aa aa) aa (kPm aa aa (al aa (aE (m:=_) fa aa aa) (.on aa aa (ae aa)) aa aa (al aa (ai isAgg30 aa aa) (.on aa aa (ae aa)) aa aa ?_)))))))))))
 refine al aa (bB aa runUnderlying30 ⟨_,rfl⟩ rfl) (.on aa aa (ae aa)) aa aa (al aa (am aa aa aa) (.on aa aa (ae aa)) aa aa (kPv (aw aa aa aa) aa (kPm aa aa (al aa (ah isAgg151 sizeOf151 aa aa) (.on aa aa (ae aa)) aa aa ?_))))
 refine al aa (ah isAgg134 sizeOf134 aa aa) (.on aa aa (ae aa)) aa aa ?_
 refine ay aa (ar call137 aa) (ik _ _ ⟨3,1,8⟩ ge ⟨0,0,[0]⟩ _ ⟨⟨by decide,by decide⟩,⟨by decide,by decide⟩⟩ hsv 3 (by decide)) (.on aa aa (ae aa)) aa aa ?_
 refine al aa (am aa aa aa) (.on aa aa (ae aa)) aa aa (kPv (aw aa aa aa) aa (kPa aa aa (ad (an [0] rfl (az ?_)))))
 exact au results239 aa (fun w hh=>⟨rfl,(hh.dp [0,0,0,0])⟩)
theorem yf(B:World)(Fr:List HP):
 ∀ w,Holds B Fr w→Calls Tryz.prog 236 [].toArray w (a8 B Fr (.bool true)):=by
 refine ao func236 aa ntmps236 aa (ac (ab (kPa aa aa (ad (ac (ac (ab (ay aa (ar call239 aa) (yg _ _) .free aa aa ?_))))))))
 refine kPv (bx aa) aa (ad (bJ aa (rfl) (aq (ac (ab (kPv (aP aa (dh _ _ _ aa aa aa)) aa (kPb (aD zeroValue134 aa) aa fun b1=>(kPs (ax (vs:=_) sizeOf134 aa aa aa aa aa) aa (ad (ac (ab ?_)))))))))))
 refine kPv (ah isAgg134 sizeOf134 aa aa) aa ?_
 refine aI aa (ar call74 aa) (dS _ _ ⟨3,1,8⟩ ge none 0 [] (by decide) (fun _ h=>absurd h (Nat.not_lt_zero _)) SlR.nil) .free aa aa ?_
 rintro _ _ ⟨bd,pa,N,s0,hN,hf,rfl,rfl⟩
 obtain rfl:N=56:=by have:(N:Int)=56:=hN.trans (by decide);omega
 have hfm:=pz ge hN hf
 have hu0:=ir (kG pa 56) ge hf
 refine kPm aa aa (kPv (aA aa aa) aa (kPv (aA aa aa) aa (kPa aa aa (kPa aa aa (ad (an [3,2,1,0] rfl (ac (ac (ab (kPm aa aa (kPv (bx aa) aa ?_)))))))))))
 refine ad (bJ aa (rfl) (aq (ac (ab (kPm aa aa (kPv (ah isAgg134 sizeOf134 aa aa) aa ?_))))))
 refine kPv (aP aa (qZ _ aa)) aa (kPm aa aa (kPv (du aa aa) aa (aI aa (ar call85 aa) (mZ _ _ bd ⟨3,1,8⟩ ge 2 0 s0 hfm.lim hu0) .free aa aa ?_)))
 rintro _ _ ⟨x1,s1,hm1,rfl,hl1,hn1,hu1,rfl⟩
 have hev:=ce (ce (BR pa) hf) hm1
 simp only[Bool.and_eq_true] at hev
 rw[nP hev.1]
 refine kPm aa aa (kPv (aA aa aa) aa (kPv (aA aa aa) aa (kPa aa aa (kPa aa aa (ad (an [5,4,2,1,0] rfl (ac (ab (kPm aa aa (kPv (ah isAgg134 sizeOf134 aa aa) aa ?_))))))))))
 refine kPv (aP aa (qZ _ aa)) aa (kPm aa aa (kPv (du aa aa) aa (aI aa (ar call85 aa) (mZ _ _ bd ⟨3,1,8⟩ ge 5 0 s1 hl1 hu1) .free aa aa ?_)))
 rintro _ _ ⟨x2,s2,hm2,rfl,hl2,hn2,hu2,rfl⟩
 rw[show x2=((0:Int),(4:Int)) from nP (ce hev.2 hm2)]
 refine kPm aa aa (kPv (aA aa aa) aa (kPv (aA aa aa) aa (kPa aa aa (kPa aa aa (ad (an [7,5,4,1,0] rfl (ac (ab (kPm aa aa (kPv (ah isAgg134 sizeOf134 aa aa) aa ?_))))))))))
 refine ay aa (ar call119 aa) (jO _ _ ⟨3,1,8⟩ ge 0 (by decide) (by decide)) .free aa aa ?_
 refine kPv (am aa aa aa) aa (kPm aa aa (al aa (aj aa) (.on aa aa (ae aa)) aa aa (al aa (am aa aa aa) (.on aa aa (ae aa)) aa aa (kPv (aw aa aa aa) aa (kPm aa aa (al aa (aj aa) (.on aa aa (ae aa)) aa aa (al aa (am aa aa aa) (.on aa aa (ae aa)) aa aa (kPv (aw aa aa aa) aa (kPa aa aa (ad (an [0] rfl ?_)))))))))))
 refine az ?_
 exact au results236 aa (fun w hh=>⟨rfl,(hh.dp [0,0])⟩)
abbrev Ed(h:Int×Int):List Value:=[u8 h.1,u8 h.2]
theorem pI:m8 2 Ed:=⟨fun _=>rfl,fun _=>rfl⟩
theorem hh1{a b:Int}(h1:0≤a∧a<256)(h2:0≤b∧b<256):∀ h∈[(a,b)],(0≤h.1∧h.1<256)∧(0≤h.2∧h.2<256):=fun h hm=>by rw[List.mem_singleton.1 hm];exact⟨h1,h2⟩
theorem Cz{B:World}{H:List HP}{b:Nat}{x y:Value}{T1:TypeId}{U:List Value→List HP}[fQ H b [x,y] T1 U]{cap:Nat}:SlN B H (.slice (some ⟨b,0,none⟩) 1 cap) 2 [[x,y]]:=
 SlN.row (cs:=[[x,y]]) fun i c h=>by
  cases i with
  | zero=>cases h;exact⟨rfl,fun j _=>by rw[Nat.zero_mul,Nat.zero_add,Nat.zero_add]⟩
  | succ i=>cases h
theorem vH(B:World)(Fr:List HP):
 ∀ w,Holds B Fr w→Calls Tryz.prog 229 [].toArray w (a8 B Fr (.bool true)):=by
 refine ao func229 aa ntmps229 aa (ac (ab (kPa aa aa (ad (ac (ac (ab (ay aa (ar call236 aa) (yf _ _) .free aa aa ?_))))))))
 refine kPv (bx aa) aa (ad (bJ aa (rfl) (aq (ac (ab (kPv (aP aa (jp _ aa)) aa (kPv (aP aa (ux _ _ aa aa)) aa (kPb (lH pI (v:=(1,2)) runUnderlying190 sizeOf189 zeroValue189 ⟨⟨by decide,by decide⟩,rfl⟩ rfl aa) aa fun b17=>(aI aa (ar call168 aa) (qU _ _ 0 0 40 ⟨by decide,by decide,by decide⟩ ⟨3,1,48⟩ tz [(1,2)] (hh1 ⟨by decide,by decide⟩ ⟨by decide,by decide⟩) (by decide) (some ⟨b17,0,none⟩) 1 Cz) .free aa aa ?_)))))))))
 rintro _ _ ⟨bd,pa,N,s0,sF,out,ov,sv,hfm,hN,⟨hus0,hf⟩,hfill,huF,hlF,hnF,hov,hsv,rfl,rfl⟩
 obtain rfl:=n48 hN
 have hev:=ce (ce (Aq pa) hf) hfill
 simp only[Bool.and_eq_true,beq_iff_eq] at hev
 obtain⟨⟨⟨⟨rfl,e1⟩,e2⟩,e3⟩,e4⟩:=hev
 rw[ee e1]
 refine aS [2] (cE fun qo co hqo hqi=> ?_)
 subst hqo
 obtain⟨bO,oO,rfl⟩:=hqi 0 (by decide)
 have ho:lL (2,1,40):=⟨⟨by decide,by decide⟩,⟨by decide,by decide⟩,⟨by decide,by decide⟩⟩
 refine kPm aa aa (kPv (aA aa aa) aa (kPv (aA aa aa) aa (kPv (aA aa aa) aa (kPv (aA aa aa) aa (kPb (aD zeroValue134 aa) aa fun b2=>(kPb (aD zeroValue151 aa) aa fun b3=>(kPa aa aa (kPs (ax (vs:=_) sizeOf134 aa aa aa aa aa) aa ?_))))))))
 refine kPs (ax (vs:=_) sizeOf151 aa aa aa (by first | rfl | exact dW (by assumption)) rfl) rfl ?_;refine kPa aa aa ?_;refine ad ?_;refine an [4,1,3,2,0] rfl ?_;refine ac ?_;refine ac ?_;refine ab ?_;refine kPm aa aa ?_;refine kPv (dw runUnderlying90 aa aa aa) aa ?_;refine kPm aa aa ?_;refine al aa (aj aa) (.on aa aa (ae aa)) aa aa ?_
 refine al aa (bB aa runUnderlying166 ⟨_,rfl⟩ rfl) (.on aa aa (ae aa)) aa aa (al aa (am aa aa aa) (.on aa aa (ae aa)) aa aa (kPv (aH aa aa aa) aa (ad (bJ aa (rfl) (aq (ac (aN (H':=dE 3 i64 0 (.slice (some ⟨bO,oO,none⟩) 1 co,[40])::row b3 [i64 0,i64 3,sv] 151::row b2 [i64 3,i64 1,i64 48] 134::cP 0 (sv,[0])::aB bd sF::Fr) (fun w hh=>by have h:=((hh.dp [5]).pk [2]);exact h) ?_)))))))
 refine iH (.br [0,1,2,3,4,5] 6 (.fin [7,8,9,10,11,12]) 10 (.fin [6,7,8,9,11,12])) [6,10,11] [0,1,2,3,4,5,7,8,9] [10,11] [row b2 [i64 3,i64 1,i64 48] 134,row b3 [i64 0,i64 3,sv] 151,dE 3 i64 0 (.slice (some ⟨bO,oO,none⟩) 1 co,[40])] [1,0] (G:=Nat) (fun b5=>[(5,ptr b5),(6,i64 (sF.objOf ⟨3,1,48⟩ ⟨0,3,[0]⟩ 40).2)]) (fun b5=>row b5 [i64 (sF.objOf ⟨3,1,48⟩ ⟨0,3,[0]⟩ 40).1.1,i64 (sF.objOf ⟨3,1,48⟩ ⟨0,3,[0]⟩ 40).1.2.1,i64 (sF.objOf ⟨3,1,48⟩ ⟨0,3,[0]⟩ 40).1.2.2] 160::dE 3 i64 0 (.slice (some ⟨bO,oO,none⟩) 1 co,[40])::row b3 [i64 0,i64 3,sv] 151::row b2 [i64 3,i64 1,i64 48] 134::cP 0 (sv,[0])::aB bd sF::Fr) Tryz.mixed (by kernel_rfl) ?_ ?_
 ·skip
  refine sG (ak aa aa aa (aj aa) .free aa (ak aa aa aa (ah isAgg134 sizeOf134 aa aa) .free aa ?_))
  refine ak aa aa aa (ah isAgg151 sizeOf151 aa aa) .free aa ?_
  refine ak aa aa aa (aj aa) .free aa (ak aa aa aa (bT runUnderlying166 sizeOf3 aa aa (by decide) (by decide)) .free aa (ak aa aa aa (bH (v:=i64 40) isAgg3 (cQ 2 aa) aa aa) .free aa (cx ?_)))
  refine ng aa aa ?_ ?_
  ·skip
   refine ay aa (ar call147 aa) (bI (q:=aB) (fun Fr=>kf _ Fr _ _ ⟨3,1,48⟩ iM ⟨0,3,[0]⟩ sv ⟨⟨by decide,by decide⟩,⟨by decide,by decide⟩⟩ hsv 40 (by decide))) .free aa aa ?_
   refine ad (sE aa (gZ (ak aa aa aa (aj aa) .free aa (ak aa aa aa (aA aa aa) .free aa (ak aa aa aa (aA aa aa) .free aa (aT aa aa (kPb (aD zeroValue160 aa) aa fun b5=>(ad (cN (aT aa aa (kPs (ax (vs:=_) sizeOf160 aa aa aa aa aa) aa ?_)))))))))))
   refine ad (cN (aQ aa aa aa (bu aa) .free aa (cx ?_)))
   exact fun a w st_=>⟨b5,st_.to (aC aa) (fun hh=>hh)⟩
  ·skip
   refine kPb (aD zeroValue160 aa) aa fun b5=>(ad (rb (gZ (aT aa aa (ay aa (ar call147 aa) (bI (q:=aB) (fun Fr=>kf _ Fr _ _ ⟨3,1,48⟩ iM ⟨0,3,[0]⟩ sv ⟨⟨by decide,by decide⟩,⟨by decide,by decide⟩⟩ hsv 40 (by decide))) .free aa aa ?_)))))
   refine ad (c7 aa (ak aa aa aa (aj aa) .free aa (ak aa aa aa (aA aa aa) .free aa (ak aa aa aa (aA aa aa) .free aa (aT aa aa (kPs (ax (vs:=_) sizeOf160 aa aa aa aa aa) aa (ad (cN (aQ aa aa aa (bu aa) .free aa (cx ?_))))))))))
   exact fun a w st_=>⟨b5,st_.to (aC aa) (fun hh=>hh)⟩
 intro b5
 refine bY (σ':=[(5,ptr b5),(6,i64 (sF.objOf ⟨3,1,48⟩ ⟨0,3,[0]⟩ 40).2),(1,_),(0,_)]) (aC aa) (ac ?_)
 rw[show sF.objOf ⟨3,1,48⟩ ⟨0,3,[0]⟩ 40=(((2:Int),(1:Int),(40:Int)),(0:Int)) from A9 e2]
 refine ab (kPv (ah isAgg160 sizeOf160 aa aa) aa ?_)
 refine kPm aa aa (ay aa (ar call237 aa) (bI (q:=aB) (fun Fr=>th _ Fr _ _ (2,1,40) ho 0)) .free aa aa ?_)
 refine kPm aa aa (kPv (aA aa aa) aa (kPv (aA aa aa) aa (kPa aa aa (kPa aa aa (ad (an [8,5,6,1,0] rfl (ac (ab (kPv (ah isAgg160 sizeOf160 aa aa) aa ?_)))))))))
 refine kPm aa aa (kPv (du aa aa) aa (aS [5] (aI aa (ar call88 aa) (uW B _ bd (2,1,40) ho 1 9 (by decide) sF hlF huF) .free aa aa ?_)))
 rintro _ _ ⟨x2,s2,hm2,rfl,hl2,hn2,hu2,rfl⟩
 have hev2:=ce e4 hm2
 simp only[Bool.and_eq_true,beq_iff_eq] at hev2
 obtain⟨f1,f2⟩:=hev2
 obtain rfl:x2=0:=f1
 refine kPa aa aa (ad (ac (ab (kPv (ah isAgg160 sizeOf160 aa aa) aa ?_))))
 refine kPm aa aa (ay aa (ar call237 aa) (bI (q:=aB) (fun Fr=>th _ Fr _ _ (2,1,40) ho 1)) .free aa aa ?_)
 refine kPm aa aa (kPv (aA aa aa) aa (kPv (aA aa aa) aa (kPa aa aa (kPa aa aa (ad (an [11,10,9,8,5,6,1,0] rfl (ac ?_)))))))
 rw[show sF.objRead (2,1,40) 0=((0:Int),(5:Int)) from nP e3,show s2.objRead (2,1,40) 1=((9:Int),(0:Int)) from nP f2]
 refine ab (kPm aa aa (kPv (am aa aa aa) aa (kPm aa aa (al aa (aj aa) (.on aa aa (ae aa)) aa aa (al aa (am aa aa aa) (.on aa aa (ae aa)) aa aa (kPv (aw aa aa aa) aa (kPm aa aa (al aa (aj aa) (.on aa aa (ae aa)) aa aa (al aa (am aa aa aa) (.on aa aa (ae aa)) aa aa (kPv (aw aa aa aa) aa (kPm aa aa ?_)))))))))))
 refine al aa (aj aa) (.on aa aa (ae aa)) aa aa (al aa (am aa aa aa) (.on aa aa (ae aa)) aa aa (kPv (aw aa aa aa) aa (kPm aa aa (al aa (aj aa) (.on aa aa (ae aa)) aa aa (al aa (am aa aa aa) (.on aa aa (ae aa)) aa aa (kPv (aw aa aa aa) aa (kPm aa aa (al aa (ah isAgg160 sizeOf160 aa aa) (.on aa aa (ae aa)) aa aa ?_))))))))
 refine al aa (aj aa) (.on aa aa (ae aa)) aa aa (aI aa (ar call196 aa) (qx _ _ (2,1,40) bd) (.on aa aa (ae aa)) aa aa ?_)
 rintro _ _ ⟨n1,n2,rfl,rfl⟩
 refine al aa (nT runUnderlying282 ⟨_,_,_,rfl⟩ rfl aa aa) (.on aa aa (ae aa)) aa aa (kPv (aw aa aa aa) aa (kPa aa aa (ad (an [0] rfl (az ?_)))))
 exact au results229 aa (fun w hh=>⟨rfl,(hh.dp [0,0,0,0,0,0,0,0])⟩)
theorem vG(B:World)(Fr:List HP):
 ∀ w,Holds B Fr w→Calls Tryz.prog 216 [].toArray w (a8 B Fr (.bool true)):=by
 refine ao func216 aa ntmps216 aa (ac (ab (kPa aa aa (ad (ac (ac (ab (ay aa (ar call229 aa) (vH _ _) .free aa aa ?_))))))))
 refine kPv (bx aa) aa (ad (bJ aa (rfl) (aq (ac (ab (kPv (aP aa (jp _ aa)) aa (kPv (aP aa (ig _ aa)) aa (kPb (lH pI (v:=(0,1)) runUnderlying190 sizeOf189 zeroValue189 ⟨⟨by decide,by decide⟩,rfl⟩ rfl aa) aa fun b12=>(aI aa (ar call114 aa) (kV _ _ 0 0 40 ⟨by decide,by decide,by decide⟩ ⟨3,1,48⟩ tz [(0,1)] (hh1 ⟨by decide,by decide⟩ ⟨by decide,by decide⟩) (by decide) (some ⟨b12,0,none⟩) _ Cz none 0 [] SlR.nil (fun _ h=>(by cases h)) (by decide) (fun _ h=>absurd h (Nat.not_lt_zero _)) 0 (by decide)) .free aa aa ?_)))))))))
 rintro _ _ ⟨bd,pa,N,s0,sF,out,hfm,hN,⟨hus0,hf⟩,hfill,hor⟩
 obtain rfl:=n48 hN
 have hev:=ce (ce (Ap pa) hf) hfill
 simp only[Bool.and_eq_true,beq_iff_eq] at hev
 obtain⟨⟨rfl,e1⟩,e2⟩:=hev
 rw[ee e1] at hor
 rcases hor with ⟨n1,n2,s1,s2,ov,sv,hl1,hl2,hu2,hlm2,hn2,hov,hsv,rfl,rfl⟩ | ⟨s1,hl1,_⟩
 rotate_left
 ·have e3:=ce e2 hl1
  simp only[Bool.and_eq_true,beq_iff_eq] at e3
  exact absurd e3.1 (by simp)
 have e3:=ce e2 hl1
 simp only[Bool.and_eq_true,beq_iff_eq] at e3
 obtain⟨e4,e5⟩:=e3
 obtain rfl:n1=0:=by injection e4
 have e6:=ce e5 hl2
 simp only[Bool.and_eq_true,beq_iff_eq] at e6
 obtain⟨⟨e7,e8⟩,e9⟩:=e6
 rw[ee e7]
 refine aS [2] (cE fun qo co hqo hqi=> ?_)
 subst hqo
 obtain⟨bO,oO,rfl⟩:=hqi 0 (by decide)
 refine kPm aa aa (kPv (aA aa aa) aa (kPv (aA aa aa) aa (kPv (aA aa aa) aa (kPv (aA aa aa) aa (kPb (aD zeroValue134 aa) aa fun b2=>(kPb (aD zeroValue151 aa) aa fun b3=>(kPa aa aa (kPs (ax (vs:=_) sizeOf134 aa aa aa aa aa) aa ?_))))))))
 refine kPs (ax (vs:=_) sizeOf151 aa aa aa (by first | rfl | exact dW (by assumption)) rfl) rfl ?_;refine kPa aa aa ?_;refine ad ?_;refine an [4,1,3,2,0] rfl ?_;refine ac ?_;refine ac ?_;refine ab ?_;refine kPm aa aa ?_;refine kPv (dw runUnderlying90 aa aa aa) aa ?_;refine kPm aa aa ?_;refine al aa (aj aa) (.on aa aa (ae aa)) aa aa ?_
 refine al aa (ah isAgg134 sizeOf134 aa aa) (.on aa aa (ae aa)) aa aa ?_
 refine al aa (ah isAgg151 sizeOf151 aa aa) (.on aa aa (ae aa)) aa aa ?_
 refine aI aa (ar call183 aa) (of _ _ bd ⟨3,1,48⟩ ⟨0,2,[0]⟩ sv hsv) (.on aa aa (ae aa)) aa aa ?_
 rintro _ _ ⟨c3,c4,c5,rfl,rfl⟩
 refine al aa (nT runUnderlying266 ⟨_,_,_,rfl⟩ rfl aa aa) (.on aa aa (ae aa)) aa aa (kPv (aH aa aa aa) aa (ad (an [26,4,1,3,2,0] rfl (bJ aa (rfl) (aq (ac (ab (kPm aa aa (kPv (ah isAgg134 sizeOf134 aa aa) aa ?_)))))))))
 refine kPv (ah isAgg151 sizeOf151 aa aa) aa ?_
 refine aS [7] (aI aa (ar call180 aa) (n7 _ _ bd s2 ⟨3,1,48⟩ iM ⟨0,2,[0]⟩ sv ⟨⟨by decide,by decide⟩,⟨by decide,by decide⟩⟩ hsv) .free aa aa ?_)
 rintro _ _ ⟨mb,rfl,rfl⟩
 rw[e8,e9]
 refine kPm aa aa (kPv (aA aa aa) aa (kPv (aA aa aa) aa (kPa aa aa (kPa aa aa (ad (an [6,5,4,0] rfl (ac (ab (kPm aa aa (kPv (am aa aa aa) aa (kPm aa aa ?_)))))))))))
 refine al aa (aj aa) (.on aa aa (ae aa)) aa aa (al aa (wX aa runUnderlying259 aa) (.on aa aa (ae aa)) aa aa (al aa (am aa aa aa) (.on aa aa (ae aa)) aa aa (kPv (aw aa aa aa) aa (kPm aa aa (al aa (aj aa) (.on aa aa (ae aa)) aa aa (al aa (bB aa runUnderlying166 ⟨_,rfl⟩ rfl) (.on aa aa (ae aa)) aa aa (al aa (am aa aa aa) (.on aa aa (ae aa)) aa aa (kPv (aw aa aa aa) aa (kPm aa aa (al aa (aj aa) (.on aa aa (ae aa)) aa aa (al aa (aj aa) (.on aa aa (ae aa)) aa aa ?_)))))))))))
 refine al aa (bT runUnderlying166 sizeOf3 aa aa (by decide) (by decide)) (.on aa aa (ae aa)) aa aa (al aa (bH (v:=i64 40) isAgg3 (cQ 7 aa) aa aa) (.on aa aa (ae aa)) aa aa (al aa ((lD runUnderlying259 runUnderlying3 zeroValue160 aa aa).eq (zi _)) (.on aa aa (ae aa)) aa aa (al aa (x5 runUnderlying160 (t:=102) (off:=0) aa isAgg102 sizeOf102 aa) (.on aa aa (ae aa)) aa aa (al aa (ie runUnderlying102 (t:=3) (off:=0) aa isAgg3 aa aa) (.on aa aa (ae aa)) aa aa (al aa (am aa aa aa) (.on aa aa (ae aa)) aa aa (kPv (aw aa aa aa) aa (kPa aa aa (ad (an [0] rfl (az ?_))))))))))
 exact au results216 aa (fun w hh=>⟨rfl,(hh.dp [0,0,0,0,0,0,0,0,0,0])⟩)
def hs2:List (Int×Int):=[(0,1),(0,2)]
theorem hh2:∀ h∈[((0:Int),(1:Int)),(0,2)],(0≤h.1∧h.1<256)∧(0≤h.2∧h.2<256):=fun h hm=>by
 simp only[List.mem_cons,List.not_mem_nil,or_false] at hm
 rcases hm with rfl | rfl<;>exact⟨by decide,by decide⟩
theorem Du{B:World}{H:List HP}{b:Nat}{x y z u:Value}{T1:TypeId}{U:List Value→List HP}[fQ H b [x,y,z,u] T1 U]{cap:Nat}:SlN B H (.slice (some ⟨b,0,none⟩) 2 cap) 2 [[x,y],[z,u]]:=
 SlN.row (cs:=[[x,y],[z,u]]) fun i c h=>by
  cases i with
  | zero=>
    cases h
    refine⟨rfl,fun j hj=> ?_⟩
    rcases j with _ | _ | j
    ·rfl
    ·rfl
    ·omega
  | succ i=>
    cases i with
    | zero=>
      cases h
      refine⟨rfl,fun j hj=> ?_⟩
      rcases j with _ | _ | j
      ·rfl
      ·rfl
      ·omega
    | succ i=>cases h
theorem xa{α:Type}{B:World}{σ:Env}{H:List HP}{P:Program}{m:Nat}{enc:α→List Value}(he:m8 m enc){d:Option Tmp}{ty:TypeId}{p:String}{af:Array Edge}{g:Option (Nat×Bool)}{t e:TypeId}{x y:Operand}{v u:α}{xv yv z:Value}(ht:∀ w,(underlying t).run P w= .ok (.slice e) w)(hs:∀ w,(sizeOf e).run P w= .ok m w)(hz:∀ w,(zeroValue e).run P w= .ok z w)(hm0:(0<m∧m≤1000)∧z.cells.size=m)(hx:evO σ x=some xv)(hv:xv.cells=(enc v).toArray)(hy:evO σ y=some yv)(hu:yv.cells=(enc u).toArray):
 Chg P B σ H ⟨d,.buildSlice t 2 #[(0,x),(1,y)],ty,p,af,g⟩ (fun r H'=>∃ b,r= .slice (some ⟨b,0,none⟩) 2 2∧H'=row b (enc v++enc u) e::H):=by
 intro a w kn hh
 refine⟨.value (.slice (some ⟨w.heap.size,0,none⟩) 2 2),{w with heap:=w.heap.push (.cells (enc v++enc u).toArray e)},?_,_,.inl aa,_,⟨_,rfl,rfl⟩,by simpa [row] using hh.new _⟩
 have h1:m≠0:=by omega
 have h2:¬ 16777216<2*m:=by omega
 have hl:(enc v).length=m:=he.len v
 have hl2:(enc u).length=m:=he.len u
 have key:∀ (k:Nat) (vs:List Value) (a:Array Value) (j:Nat),k+vs.length≤a.size→(List.foldl (fun (cs:Array Value) (x:Value×Nat)=>cs.setIfInBounds (k+x.2) x.1) a vs.zipIdx)[j]? =if k≤j∧j<k+vs.length then vs[j - k]? else a[j]? :=by
  intro k vs a j h
  have:=kZ vs k a h j
  rw[←this]
  congr 1
  have hz:vs.zipIdx k=vs.zipIdx.map fun x=>(x.1,k+x.2):=by
   apply List.ext_getElem?
   intro i
   simp[List.getElem?_zipIdx]
   cases vs[i]?<;>simp
  rw[hz,List.foldl_map]
 have hsz:∀ (g:Nat→Nat) (l:List (Value×Nat)) (a:Array Value),(List.foldl (fun (cs:Array Value) (x:Value×Nat)=>cs.setIfInBounds (g x.2) x.1) a l).size=a.size:=by
  intro g l
  induction l with
  | nil=>intro a;rfl
  | cons x l ih=>intro a;rw[List.foldl_cons,ih];simp
 simp[execOp,Instr.buildSlice,ht,hs,Instr.fill,cU,hz,kn.eval hx,hv,kn.eval hy,hu,h1,h2,hl,hl2]
 generalize hA:Array.map (fun x=>z.cells[x%z.cells.size]!) (Array.range (2*m))=A
 have hAs:A.size=2*m:=by rw[←hA];simp
 rw[if_neg (by omega),if_neg (by omega),if_neg (by rw[hsz (fun x=>x) _ A];omega)]
 generalize hF:List.foldl (fun (cs:Array Value) (x:Value×Nat)=>cs.setIfInBounds x.snd x.fst) A (enc v).zipIdx=F
 have hFs:F.size=2*m:=by rw[←hF,hsz (fun x=>x) _ A];exact hAs
 have hF2:∀ j,F[j]? =if j<m then (enc v)[j]? else A[j]? :=fun j=>by
  have:=kZ (enc v) 0 A (by omega) j
  rw[←hF,this]
  simp[hl]
 have e9:List.foldl (fun (cs:Array Value) (x:Value×Nat)=>cs.setIfInBounds (m+x.snd) x.fst) F (enc u).zipIdx=(enc v++enc u).toArray:=by
  apply Array.ext_getElem?
  intro j
  rw[key m (enc u) F j (by omega),hF2,show(enc v++enc u).toArray[j]? =(enc v++enc u)[j]? by simp,List.getElem?_append,hl,hl2]
  by_cases h3:j<m
  ·rw[if_neg (by omega),if_pos h3,if_pos h3]
  ·rw[if_neg h3]
   by_cases h4:j<m+m
   ·rw[if_pos (by omega),if_neg h3]
   ·rw[if_neg (by omega),if_neg h3,List.getElem?_eq_none (by omega),Array.getElem?_eq_none (by omega)]
 simp only[e9]
 rfl
theorem An(pa:Nat):okB ((iT pa [] 136).format c48) (fun _ s=>okB (hJ c48 [(0,1),(0,2)] s []) fun out sF=>out==[40,42]&&iN (sF.block c48) ⟨0,5,[0]⟩ 0&&okB (eG c48 ⟨0,5,[0]⟩ (dj [] [40,42] 0) [40,42] 0 sF) fun n1 s1=>n1==some 0&&okB (fI c48 (dj [] [40,42] 0) 1 0 0 s1) fun _ s2=>iN (s2.block c48) ⟨0,5,[0]⟩ 0&&s2.reachSize c48 ⟨0,5,[0]⟩ []==0&&s2.reachSize c48 ⟨0,5,[0]⟩ [42]==3)=true:=by kernel_rfl
theorem Am(pa bd:Nat):okB ((iT pa [] 136).format c48) (fun _ s=>okB (hJ c48 [(0,1)] s []) fun out sF=>out==[40]&&iN (sF.block c48) ⟨0,2,[0]⟩ 0&&okB (eG c48 ⟨0,2,[0]⟩ (dj [] [40] 0) [40] 0 sF) fun n1 s1=>n1==some 0&&okB (fI c48 (dj [] [40] 0) 1 0 0 s1) fun _ s2=>iN (s2.block c48) ⟨0,2,[0]⟩ 0&&okB ((et bd c48 ⟨0,2,[0]⟩ [0]).step s2) fun r s3=> !r.1&&okB (r.2.step s3) fun r2 _=>r2.1&&iN (r2.2.block,0) ⟨1,0,[0]⟩ 0)=true:=by kernel_rfl
def B6(o:Option bF)(w v:Int):Bool:=match o with
 | some X=>(bP X.went w).getD 0==v
 | none=>false
theorem Al(pa bd:Nat):okB ((iT pa [] 136).format c48) (fun _ s=>okB (hJ c48 [(0,1),(0,2)] s []) fun out sF=>out==[40,42]&&iN (sF.block c48) ⟨0,5,[0]⟩ 0&&okB (eG c48 ⟨0,5,[0]⟩ (dj [] [40,42] 0) [40,42] 0 sF) fun n1 s1=>n1==some 0&&okB (fI c48 (dj [] [40,42] 0) 1 0 0 s1) fun _ s2=>iN (s2.block c48) ⟨0,5,[0]⟩ 0&&(bZ bd c48 s2).n==0&&okB (eN bd c48 ⟨bZ bd c48 s2,0,0,[],[]⟩ s2 [42]) fun r s3=>r.2.1==0&&B6 r.1 42 88&&iN (s3.block c48) ⟨1,3,[0]⟩ 0)=true:=by kernel_rfl
theorem vF(B:World)(Fr:List HP):
 ∀ w,Holds B Fr w→Calls Tryz.prog 201 [].toArray w (a8 B Fr (.bool true)):=by
 refine ao func201 aa ntmps201 aa (ac (ab (kPa aa aa (ad (ac (ac (ab (ay aa (ar call216 aa) (vG _ _) .free aa aa ?_))))))))
 refine kPv (bx aa) aa (ad (bJ aa (rfl) (aq (ac (ab (kPv (aP aa (dh _ _ _ aa aa aa)) aa (kPb (aD zeroValue134 aa) aa fun b1=>(kPs (ax (vs:=_) sizeOf134 aa aa aa aa aa) aa (ad (ac (ab ?_)))))))))))
 refine kPv (ah isAgg134 sizeOf134 aa aa) aa ?_
 refine aI aa (ar call74 aa) (dS _ _ ⟨3,1,8⟩ ge none 0 [] (by decide) (fun _ h=>absurd h (Nat.not_lt_zero _)) SlR.nil) .free aa aa ?_
 rintro _ _ ⟨bd,pa,N,s0,hN,hf,rfl,rfl⟩
 obtain rfl:N=56:=by have:(N:Int)=56:=hN.trans (by decide);omega
 have hfm:=pz ge hN hf
 have hu0:=ir (kG pa 56) ge hf
 have hev:=ce (Ao pa) hf
 simp only[Bool.and_eq_true,beq_iff_eq] at hev
 refine kPm aa aa (kPv (aA aa aa) aa (kPv (aA aa aa) aa (kPa aa aa (kPa aa aa (ad (an [3,2,1,0] rfl (ac (ac (ab (kPm aa aa (kPv (bx aa) aa ?_)))))))))))
 refine kPm aa aa (al aa (aj aa) (.on aa aa (ae aa)) aa aa (al aa (ah isAgg134 sizeOf134 aa aa) (.on aa aa (ae aa)) aa aa ?_))
 refine ay aa (ar call130 aa) (bI (q:=aB) (fun Fr=>la _ Fr _ s0 ⟨3,1,8⟩ ge hu0)) (.on aa aa (ae aa)) aa aa ?_
 refine al aa (am aa aa aa) (.on aa aa (ae aa)) aa aa (kPv (aH aa aa aa) aa (ad (an [19,2,1,0] rfl (bJ aa (by rw[hev.1];rfl) (aq (ac (ab (kPm aa aa (kPv (ah isAgg134 sizeOf134 aa aa) aa ?_)))))))))
 refine ay aa (ar call171 aa) (lZ _ _ ⟨3,1,8⟩ ge 0 (by decide) (by decide)) .free aa aa ?_
 refine aI aa (ar call145 aa) (o6 _ _ bd s0 34 5 hfm.lim hu0 (by decide)) .free aa aa ?_
 rintro _ _ ⟨x1,s1,hm1,rfl,hl1,hn1,hu1,rfl⟩
 have hev2:=ce hev.2 hm1
 simp only[beq_iff_eq] at hev2
 refine ad (ac (ab (kPm aa aa (kPv (ah isAgg134 sizeOf134 aa aa) aa ?_))))
 refine ay aa (ar call130 aa) (bI (q:=aB) (fun Fr=>la _ Fr _ s1 ⟨3,1,8⟩ ge hu1)) .free aa aa ?_
 refine kPv (am aa aa aa) aa (kPa aa aa (ad (an [0] rfl (az ?_))))
 exact au results201 aa (fun w hh=>⟨by rw[hev2];rfl,(hh.dp [0,0])⟩)
theorem vE(B:World)(Fr:List HP):
 ∀ w,Holds B Fr w→Calls Tryz.prog 165 [].toArray w (a8 B Fr (.bool true)):=by
 refine ao func165 aa ntmps165 aa (ac (ab (kPa aa aa (ad (ac (ac (ab (ay aa (ar call201 aa) (vF _ _) .free aa aa ?_))))))))
 refine kPv (bx aa) aa (ad (bJ aa (rfl) (aq (ac (ab (kPv (aP aa (jp _ aa)) aa (kPv (aP aa (ig _ aa)) aa (kPv (aP aa (ig _ aa)) aa (kPb (xa pI (v:=(0,1)) (u:=(0,2)) runUnderlying190 sizeOf189 zeroValue189 ⟨⟨by decide,by decide⟩,rfl⟩ rfl aa aa aa) aa fun b11=>(aI aa (ar call114 aa) (kV _ _ 0 0 40 ⟨by decide,by decide,by decide⟩ ⟨3,1,48⟩ tz [(0,1),(0,2)] (hh2) (by decide) (some ⟨b11,0,none⟩) _ Du none 0 [] SlR.nil (fun _ h=>(by cases h)) (by decide) (fun _ h=>absurd h (Nat.not_lt_zero _)) 0 (by decide)) .free aa aa ?_))))))))))
 rintro _ _ ⟨bd,pa,N,s0,sF,out,hfm,hN,⟨hus0,hf⟩,hfill,hor⟩
 obtain rfl:=n48 hN
 have hev:=ce (ce (An pa) hf) hfill
 simp only[Bool.and_eq_true,beq_iff_eq] at hev
 obtain⟨⟨rfl,e1⟩,e2⟩:=hev
 rw[ee e1] at hor
 rcases hor with ⟨n1,n2,s1,s2,ov,sv,hl1,hl2,hu2,hlm2,hn2,hov,hsv,rfl,rfl⟩ | ⟨s1,hl1,_⟩
 rotate_left
 ·have e3:=ce e2 hl1
  simp only[Bool.and_eq_true,beq_iff_eq] at e3
  exact absurd e3.1 (by simp)
 have e3:=ce e2 hl1
 simp only[Bool.and_eq_true,beq_iff_eq] at e3
 obtain⟨e4,e5⟩:=e3
 obtain rfl:n1=0:=by injection e4
 have e6:=ce e5 hl2
 simp only[Bool.and_eq_true,beq_iff_eq] at e6
 obtain⟨⟨e7,e8⟩,e9⟩:=e6
 rw[ee e7]
 refine aS [2] (cE fun qo co hqo hqi=> ?_)
 subst hqo
 obtain⟨bO,oO,rfl⟩:=hqi 0 (by decide)
 refine kPm aa aa (kPv (aA aa aa) aa (kPv (aA aa aa) aa (kPv (aA aa aa) aa (kPv (aA aa aa) aa (kPb (aD zeroValue134 aa) aa fun b2=>(kPb (aD zeroValue151 aa) aa fun b3=>(kPa aa aa (kPs (ax (vs:=_) sizeOf134 aa aa aa aa aa) aa ?_))))))))
 refine kPs (ax (vs:=_) sizeOf151 aa aa aa (by first | rfl | exact dW (by assumption)) rfl) rfl ?_;refine kPa aa aa ?_;refine ad ?_;refine an [4,1,3,2,0] rfl ?_;refine ac ?_;refine ac ?_;refine ab ?_;refine kPm aa aa ?_;refine kPv (dw runUnderlying90 aa aa aa) aa ?_;refine kPm aa aa ?_;refine al aa (aj aa) (.on aa aa (ae aa)) aa aa ?_
 refine al aa (bB aa runUnderlying166 ⟨_,rfl⟩ rfl) (.on aa aa (ae aa)) aa aa (al aa (am aa aa aa) (.on aa aa (ae aa)) aa aa (kPv (aH aa aa aa) aa (kPm aa aa (al aa (aj aa) (.on aa aa (ae aa)) aa aa (al aa (ah isAgg134 sizeOf134 aa aa) (.on aa aa (ae aa)) aa aa ?_)))))
 refine al aa (ah isAgg151 sizeOf151 aa aa) (.on aa aa (ae aa)) aa aa ?_
 refine aI aa (ar call154 aa) (sr _ _ bd ⟨3,1,48⟩ ⟨0,5,[0]⟩ sv hsv (.slice none 0 0) aa) (.on aa aa (ae aa)) aa aa ?_
 rintro _ _ ⟨c1,c2,c3,c4,rfl,rfl⟩
 refine al aa (nT runUnderlying224 ⟨_,_,_,rfl⟩ rfl aa aa) (.on aa aa (ae aa)) aa aa (kPv (aH aa aa aa) aa (ad (an [30,4,1,3,2,0] rfl (bJ aa (rfl) (aq (ac (aN (H':=aB bd s2::dE 3 i64 0 (.slice (some ⟨bO,oO,none⟩) 2 co,[40,42])::row b3 [i64 0,i64 5,sv] 151::row b2 [i64 3,i64 1,i64 48] 134::cP 0 (sv,[0])::Fr) (fun w hh=>by have h:=((hh.dp [0,0,0,0,5]).pk [4,2]);exact h) (cR [0,1,2,3,4,5,6,7,8,9,10,11,12,13,14,15,16,17] [3,13,14] [6,7,8] [13] [row b2 [i64 3,i64 1,i64 48] 134,row b3 [i64 0,i64 5,sv] 151,dE 3 i64 0 (.slice (some ⟨bO,oO,none⟩) 2 co,[40,42])] Tryz.mixed (by kernel_rfl) ?_))))))))
 refine aQ aa aa aa (aj aa) .free aa (aQ aa aa aa (ah isAgg134 sizeOf134 aa aa) .free aa ?_)
 refine aQ aa aa aa (ah isAgg151 sizeOf151 aa aa) .free aa ?_
 refine aT aa aa (ay aa (ar call90 aa) (n8 B _ bd ⟨3,1,48⟩ iM ⟨0,5,[0]⟩ sv ⟨⟨by decide,by decide⟩,⟨by decide,by decide⟩⟩ hsv s2 none 0 [] (fun _ h=>(by cases h)) (by decide) (fun _ h=>absurd h (Nat.not_lt_zero _)) SlR.nil) .free aa aa ?_)
 refine ad (c7 aa (aQ aa aa aa (am aa aa aa) .free aa (aQ aa aa aa (aj aa) .free aa (ak aa aa aa (aj aa) (.on aa aa (ae (by rw[e8];rfl))) aa (ak aa aa aa (ah isAgg134 sizeOf134 aa aa) (.on aa aa (ae (by rw[e8];rfl))) aa ?_)))))
 refine ak aa aa aa (ah isAgg151 sizeOf151 aa aa) (.on aa aa (ae (by rw[e8];rfl))) aa ?_
 refine aQ aa aa aa (aj aa) (.on aa aa (ae (by rw[e8];rfl))) aa (aQ aa aa aa (bT runUnderlying166 sizeOf3 aa aa (by decide) (by decide)) (.on aa aa (ae (by rw[e8];rfl))) aa (aQ aa aa aa (bH (v:=i64 42) isAgg3 (cQ 1 aa) aa aa) (.on aa aa (ae (by rw[e8];rfl))) aa (aQ aa aa aa (cZ (c:=42) runUnderlying3 runUnderlying25 aa (by decide)) (.on aa aa (ae (by rw[e8];rfl))) aa (aT aa aa (cI aa (fB runUnderlying30 sizeOf25 zeroValue25 aa aa aa) (.on aa aa (ae (by rw[e8];rfl))) aa aa ?_)))))
 rintro _ _ ⟨b44,rfl,rfl⟩
 refine ad (cN (aS [1] (aT aa aa (ay aa (ar call90 aa) (n8 B _ bd ⟨3,1,48⟩ iM ⟨0,5,[0]⟩ sv ⟨⟨by decide,by decide⟩,⟨by decide,by decide⟩⟩ hsv s2 (some ⟨b44,0,none⟩) 1 [42] (fun v h=>by rw[List.mem_singleton.1 h];decide) (by decide) (fun _ _=>⟨_,_,rfl⟩) (SlR.row (b:=b44) aa aa)) (.on aa aa (ae (by rw[e8];rfl))) aa aa ?_))))
 refine ad (c7 aa (aQ aa aa aa (am aa aa aa) (.on aa aa (ae (by rw[e8];rfl))) aa (aQ aa aa aa (aw aa (by rw[e8];rfl) aa) .free aa (aQ aa aa aa (bu aa) .free aa (cx (an [0] rfl (az ?_)))))))
 exact au results165 aa (fun w hh=>⟨by rw[e9];rfl,(hh.dp [0,0,0,0,0,0])⟩)
theorem vD(B:World)(Fr:List HP):
 ∀ w,Holds B Fr w→Calls Tryz.prog 113 [].toArray w (a8 B Fr (.bool true)):=by
 refine ao func113 aa ntmps113 aa (ac (ab (kPa aa aa (ad (ac (ac (ab (ay aa (ar call165 aa) (vE _ _) .free aa aa ?_))))))))
 refine kPv (bx aa) aa (ad (bJ aa (rfl) (aq (ac (ab (kPv (aP aa (jp _ aa)) aa (kPv (aP aa (ig _ aa)) aa (kPb (lH pI (v:=(0,1)) runUnderlying190 sizeOf189 zeroValue189 ⟨⟨by decide,by decide⟩,rfl⟩ rfl aa) aa fun b13=>(aI aa (ar call114 aa) (kV _ _ 0 0 40 ⟨by decide,by decide,by decide⟩ ⟨3,1,48⟩ tz [(0,1)] (hh1 ⟨by decide,by decide⟩ ⟨by decide,by decide⟩) (by decide) (some ⟨b13,0,none⟩) _ Cz none 0 [] SlR.nil (fun _ h=>(by cases h)) (by decide) (fun _ h=>absurd h (Nat.not_lt_zero _)) 0 (by decide)) .free aa aa ?_)))))))))
 rintro _ _ ⟨bd,pa,N,s0,sF,out,hfm,hN,⟨hus0,hf⟩,hfill,hor⟩
 obtain rfl:=n48 hN
 have hev:=ce (ce (Am pa bd) hf) hfill
 simp only[Bool.and_eq_true,beq_iff_eq] at hev
 obtain⟨⟨rfl,e1⟩,e2⟩:=hev
 rw[ee e1] at hor
 rcases hor with ⟨n1,n2,s1,s2,ov,sv,hl1,hl2,hu2,hlm2,hn2,hov,hsv,rfl,rfl⟩ | ⟨s1,hl1,_⟩
 rotate_left
 ·have e3:=ce e2 hl1
  simp only[Bool.and_eq_true,beq_iff_eq] at e3
  exact absurd e3.1 (by simp)
 have e3:=ce e2 hl1
 simp only[Bool.and_eq_true,beq_iff_eq] at e3
 obtain⟨e4,e5⟩:=e3
 obtain rfl:n1=0:=by injection e4
 have e6:=ce e5 hl2
 simp only[Bool.and_eq_true,beq_iff_eq] at e6
 obtain⟨e7,e8⟩:=e6
 rw[ee e7]
 refine aS [2] (cE fun qo co hqo hqi=> ?_)
 subst hqo
 obtain⟨bO,oO,rfl⟩:=hqi 0 (by decide)
 refine kPm aa aa (kPv (aA aa aa) aa (kPv (aA aa aa) aa (kPv (aA aa aa) aa (kPv (aA aa aa) aa (kPb (aD zeroValue134 aa) aa fun b2=>(kPb (aD zeroValue151 aa) aa fun b3=>(kPa aa aa (kPs (ax (vs:=_) sizeOf134 aa aa aa aa aa) aa ?_))))))))
 refine kPs (ax (vs:=_) sizeOf151 aa aa aa (by first | rfl | exact dW (by assumption)) rfl) rfl ?_;refine kPa aa aa ?_;refine ad ?_;refine an [4,1,3,2,0] rfl ?_;refine ac ?_;refine ac ?_;refine ab ?_;refine kPm aa aa ?_;refine kPv (dw runUnderlying90 aa aa aa) aa ?_;refine kPm aa aa ?_;refine al aa (aj aa) (.on aa aa (ae aa)) aa aa ?_
 refine al aa (bB aa runUnderlying166 ⟨_,rfl⟩ rfl) (.on aa aa (ae aa)) aa aa (al aa (am aa aa aa) (.on aa aa (ae aa)) aa aa (kPv (aH aa aa aa) aa (ad (an [25,1,3,2,0] rfl (bJ aa (rfl) (aq (ac (ab (kPm aa aa (kPv (ah isAgg134 sizeOf134 aa aa) aa ?_))))))))))
 refine kPv (ah isAgg151 sizeOf151 aa aa) aa ?_
 refine kPb (fB runUnderlying30 sizeOf25 zeroValue25 aa aa aa) aa fun b29=>(aS [4] (aI aa (ar call133 aa) (r7 B _ bd ⟨3,1,48⟩ iM ⟨0,2,[0]⟩ ⟨⟨by decide,by decide⟩,⟨by decide,by decide⟩⟩ sv hsv (some ⟨b29,0,none⟩) 1 [0] (by decide) (fun h=>by cases h) (SlR.row (b:=b29) aa aa)) .free aa aa ?_))
 rintro _ _ ⟨x,rfl,rfl⟩
 have hX0:fj (et bd ⟨3,1,48⟩ ⟨0,2,[0]⟩ [0]):=l3 iM ⟨⟨by decide,by decide⟩,⟨by decide,by decide⟩⟩ (by decide) (fun v h=>by rw[List.mem_singleton.1 h];decide) (fun v h=>by rw[List.mem_singleton.1 h];decide)
 refine kPa aa aa (ad (an [5,0] rfl (ac (ac (ab (kPm aa aa (kPv (dw runUnderlying147 aa aa aa) aa (ad (bJ aa (rfl) (aq (ac ?_)))))))))))
 refine ab (kPm aa aa (aS [0,4] ?_))
 refine aU aa (ar call166 aa) (pK B _ x (et bd ⟨3,1,48⟩ ⟨0,2,[0]⟩ [0]) hX0 s2 hu2) .free aa aa ?_ ?_
 rotate_left
 ·rintro _ _ ⟨s9,hm9,_⟩
  exact(jH e8 hm9).elim
 rintro _ _ ⟨r1,s3,hm1,rfl,rfl⟩
 have e9:=ce e8 hm1
 simp only[Bool.and_eq_true,Bool.not_eq_true'] at e9
 obtain⟨e10,e11⟩:=e9
 obtain⟨hX1,hu3,_,hbd1,_⟩:=rh hX0 hu2 hm1
 refine aN (H':=eU x r1.2::aB r1.2.bd s3::_) (fun w hh=>by rw[hbd1];exact hh) (kPm aa aa ?_)
 refine aU aa (ar call166 aa) (pK B _ x r1.2 hX1 s3 hu3) .free aa aa ?_ ?_
 rotate_left
 ·rintro _ _ ⟨s9,hm9,_⟩
  exact(jH e11 hm9).elim
 rintro _ _ ⟨r2,s4,hm2,rfl,rfl⟩
 have e12:=ce e11 hm2
 simp only[Bool.and_eq_true] at e12
 obtain⟨hX2,hu4,_⟩:=rh hX1 hu3 hm2
 have hbl:r2.2.block=⟨1,0,[0]⟩:=congrArg Prod.fst (ee e12.2)
 rw[e10,e12.1]
 refine kPa aa aa (kPa aa aa (ad (ac (ab (kPm aa aa (kPv (bx aa) aa (kPm aa aa (al aa (aj aa) (.on aa aa (ae aa)) aa aa (kPv (aw aa aa aa) aa (kPm aa aa (al aa (aj aa) (.on aa aa (ae aa)) aa aa ?_)))))))))))
 refine aI aa (ar call167 aa) (mW B _ x r2.2 hX2) (.on aa aa (ae aa)) aa aa ?_
 rintro _ _ ⟨bv5,hbv5,rfl,rfl⟩
 rw[hbl]
 refine al aa (ie runUnderlying151 (t:=3) (off:=1) aa isAgg3 aa aa) (.on aa aa (ae aa)) aa aa (al aa (am aa aa aa) (.on aa aa (ae aa)) aa aa (kPv (aw aa aa aa) aa (kPm aa aa (al aa (aj aa) (.on aa aa (ae aa)) aa aa (aS [1] (aI aa (ar call167 aa) (mW B _ x r2.2 hX2) (.on aa aa (ae aa)) aa aa ?_))))))
 rintro _ _ ⟨bv6,hbv6,rfl,rfl⟩
 rw[hbl]
 refine al aa (ie runUnderlying151 (t:=3) (off:=0) aa isAgg3 aa aa) (.on aa aa (ae aa)) aa aa (al aa (am aa aa aa) (.on aa aa (ae aa)) aa aa (kPv (aw aa aa aa) aa (kPa aa aa (ad (an [0] rfl (az ?_))))))
 exact au results113 aa (fun w hh=>⟨rfl,(hh.dp [0,0,0,0,0,0,0,0,0])⟩)
theorem vC(B:World)(Fr:List HP):
 ∀ w,Holds B Fr w→Calls Tryz.prog 70 [].toArray w (a8 B Fr (.bool true)):=by
 refine ao func70 aa ntmps70 aa (ac (ab (kPa aa aa (ad (ac (ac (ab (ay aa (ar call113 aa) (vD _ _) .free aa aa ?_))))))))
 refine kPv (bx aa) aa (ad (bJ aa (rfl) (aq (ac (ab (kPv (aP aa (jp _ aa)) aa (kPv (aP aa (ig _ aa)) aa (kPv (aP aa (ig _ aa)) aa (kPb (xa pI (v:=(0,1)) (u:=(0,2)) runUnderlying190 sizeOf189 zeroValue189 ⟨⟨by decide,by decide⟩,rfl⟩ rfl aa aa aa) aa fun b16=>(aI aa (ar call114 aa) (kV _ _ 0 0 40 ⟨by decide,by decide,by decide⟩ ⟨3,1,48⟩ tz [(0,1),(0,2)] (hh2) (by decide) (some ⟨b16,0,none⟩) _ Du none 0 [] SlR.nil (fun _ h=>(by cases h)) (by decide) (fun _ h=>absurd h (Nat.not_lt_zero _)) 0 (by decide)) .free aa aa ?_))))))))))
 rintro _ _ ⟨bd,pa,N,s0,sF,out,hfm,hN,⟨hus0,hf⟩,hfill,hor⟩
 obtain rfl:=n48 hN
 have hev:=ce (ce (Al pa bd) hf) hfill
 simp only[Bool.and_eq_true,beq_iff_eq] at hev
 obtain⟨⟨rfl,e1⟩,e2⟩:=hev
 rw[ee e1] at hor
 rcases hor with ⟨n1,n2,s1,s2,ov,sv,hl1,hl2,hu2,hlm2,hn2,hov,hsv,rfl,rfl⟩ | ⟨s1,hl1,_⟩
 rotate_left
 ·have e3:=ce e2 hl1
  simp only[Bool.and_eq_true,beq_iff_eq] at e3
  exact absurd e3.1 (by simp)
 have e3:=ce e2 hl1
 simp only[Bool.and_eq_true,beq_iff_eq] at e3
 obtain⟨e4,e5⟩:=e3
 obtain rfl:n1=0:=by injection e4
 have e6:=ce e5 hl2
 simp only[Bool.and_eq_true,beq_iff_eq] at e6
 obtain⟨⟨e7,e14⟩,e8⟩:=e6
 rw[ee e7]
 refine aS [2] (cE fun qo co hqo hqi=> ?_)
 subst hqo
 obtain⟨bO,oO,rfl⟩:=hqi 0 (by decide)
 refine kPm aa aa (kPv (aA aa aa) aa (kPv (aA aa aa) aa (kPv (aA aa aa) aa (kPv (aA aa aa) aa (kPb (aD zeroValue134 aa) aa fun b2=>(kPb (aD zeroValue151 aa) aa fun b3=>(kPa aa aa (kPs (ax (vs:=_) sizeOf134 aa aa aa aa aa) aa ?_))))))))
 refine kPs (ax (vs:=_) sizeOf151 aa aa aa (by first | rfl | exact dW (by assumption)) rfl) rfl ?_;refine kPa aa aa ?_;refine ad ?_;refine an [4,1,3,2,0] rfl ?_;refine ac ?_;refine ac ?_;refine ab ?_;refine kPm aa aa ?_;refine kPv (dw runUnderlying90 aa aa aa) aa ?_;refine kPm aa aa ?_;refine al aa (aj aa) (.on aa aa (ae aa)) aa aa ?_
 refine al aa (bB aa runUnderlying166 ⟨_,rfl⟩ rfl) (.on aa aa (ae aa)) aa aa (al aa (am aa aa aa) (.on aa aa (ae aa)) aa aa (kPv (aH aa aa aa) aa (kPm aa aa (al aa (aE (m:=_) dA aa aa) (.on aa aa (ae aa)) aa aa (al aa (ai isAgg3 aa aa) (.on aa aa (ae aa)) aa aa (al aa (am aa aa aa) (.on aa aa (ae aa)) aa aa (kPv (aH aa aa aa) aa (ad (an [33,4,1,2,0] rfl (bJ aa (rfl) (aq ?_)))))))))))
 refine ac (ab (kPm aa aa (kPv (ah isAgg134 sizeOf134 aa aa) aa ?_)))
 refine aS [4] (aI aa (ar call115 aa) (rm _ _ bd s2 ⟨3,1,48⟩ iM) .free aa aa ?_)
 rintro _ _ ⟨bs,rfl,rfl⟩
 refine kPa aa aa (ad (ac (ac (ab (kW fun bl o1 o2=>(kPm aa aa (kPv (dw runUnderlying146 aa aa aa) aa (kPm aa aa (al aa (aj aa) (.on aa aa (ae aa)) aa aa (al aa (aK aa) (.on aa aa (ae aa)) aa aa (al aa (aE (m:=_) iw aa aa) (.on aa aa (ae aa)) aa aa ?_)))))))))))
 refine al aa (ai isAgg168 aa aa) (.on aa aa (ae aa)) aa aa (al aa (dw runUnderlying168 aa aa aa) (.on aa aa (ae aa)) aa aa (kPv (aH aa aa aa) aa (ad (an [45,5,4,1,2,0] rfl (bJ aa (rfl) (aq (ac (aN (fun w hh=>dP (S:=(⟨bZ bd ⟨3,1,48⟩ s2,0,0,[],[]⟩:bE)) hh) (aN (H':=fD bs (⟨bZ bd ⟨3,1,48⟩ s2,0,0,[],[]⟩:bE)::aB bd s2::row b2 [i64 3,i64 1,i64 48] 134::dE 3 i64 0 (.slice (some ⟨bO,oO,none⟩) 2 co,[40,42])::cP 0 (sv,[0])::Fr) (fun w hh=>by have h:=(hh.dp [2,5]);exact h) (cR [0,1,2,3,4,5,6,7,8,9,10,11,12,13] [7,8] [0,1,2] [7] [row b2 [i64 3,i64 1,i64 48] 134,dE 3 i64 0 (.slice (some ⟨bO,oO,none⟩) 2 co,[40,42])] Tryz.mixed (by kernel_rfl) ?_))))))))))
 refine ak aa aa aa (aj aa) .free aa (ak aa aa aa (ah isAgg134 sizeOf134 aa aa) .free aa ?_)
 refine ak aa aa aa (aj aa) .free aa (aQ aa aa aa (aj aa) .free aa (aQ aa aa aa (bT runUnderlying166 sizeOf3 aa aa (by decide) (by decide)) .free aa (aQ aa aa aa (bH (v:=i64 42) isAgg3 (cQ 3 aa) aa aa) .free aa (aQ aa aa aa (cZ (c:=42) runUnderlying3 runUnderlying25 aa (by decide)) .free aa (aT aa aa (kPb (fB runUnderlying30 sizeOf25 zeroValue25 aa aa aa) aa fun b54=>(ad (cN (aT aa aa (aS [1,1] ?_))))))))))
 refine aU aa (ar call116 aa) (t6 B _ bs bd (⟨bZ bd ⟨3,1,48⟩ s2,0,0,[],[]⟩:bE) ⟨3,1,48⟩ iM s2 hu2 ⟨iE iM,by rw[hn2];decide,rfl,rfl⟩ (some ⟨b54,0,none⟩) 1 [42] (by decide) (fun v h=>by rw[List.mem_singleton.1 h];decide) (SlR.row (b:=b54) aa aa)) .free aa aa ?_ ?_
 rotate_left
 ·rintro _ _ ⟨s9,hm9,_⟩
  exact(jH e8 hm9).elim
 rintro _ _ ⟨r,s3,hm3,hor⟩
 have e9:=ce e8 hm3
 simp only[Bool.and_eq_true,beq_iff_eq] at e9
 obtain⟨⟨e10,e11⟩,e12⟩:=e9
 rcases hor with ⟨h1,_⟩ | ⟨x,X,hX,h0,rfl,rfl⟩
 ·rw[h1] at e11;cases e11
 rw[hX] at e11
 have e13:(bP X.went 42).getD 0=88:=by simpa [B6] using e11
 have hu3:=(x9 iM (fun v h=>by rw[List.mem_singleton.1 h];decide) (iE iM) hu2 (by rw[hn2];decide) e14 hm3).1
 refine ad (c7 aa (aQ aa aa aa (aj aa) .free aa (aQ aa aa aa (aA aa aa) .free aa (aQ aa aa aa (aA aa aa) .free aa (aQ aa aa aa (bu aa) .free aa (aQ aa aa aa (bu aa) .free aa (cx (an [7,6,4,1,2,0] rfl (ac (ab (kPm aa aa ?_)))))))))))
 refine kPv (ah isAgg134 sizeOf134 aa aa) aa ?_
 refine aS [2] (aI aa (ar call117 aa) (fU _ _ _ _ ⟨3,1,48⟩ iM hu3) .free aa aa ?_)
 rintro _ _ ⟨sv3,hsv3,rfl,rfl⟩
 rw[ee e12]
 refine kPm aa aa (kPv (aA aa aa) aa (kPv (aA aa aa) aa (kPb (aD zeroValue151 aa) aa fun b8=> ?_)))
 refine kPs (ax (vs:=_) sizeOf151 aa aa aa (by first | rfl | exact dW (by assumption)) rfl) rfl ?_;refine kPa aa aa ?_;refine ad ?_;refine an [9,8,7,6,4,2,0] rfl ?_;refine ac ?_;refine cK Tryz.mixed (by kernel_rfl) (by kernel_rfl) ?_;refine kQm aa aa ?_;refine kQv (am aa aa aa) aa ?_
 refine kQm aa aa (ba aa (aj aa) (.on aa aa (ae aa)) aa (ba aa (dw runUnderlying147 aa aa aa) (.on aa aa (ae aa)) aa (kQv (aw aa aa aa) aa (kQm aa aa (ba aa (aj aa) (.on aa aa (ae aa)) aa (ba aa (am aa aa aa) (.on aa aa (ae aa)) aa (kQv (aw aa aa aa) aa (kQm aa aa (ba aa (aE (m:=_) ix aa aa) (.on aa aa (ae aa)) aa (ba aa (ai isAgg3 aa aa) (.on aa aa (ae aa)) aa (ba aa (am aa aa aa) (.on aa aa (ae aa)) aa ?_)))))))))))
 refine kQv (aw aa aa aa) aa (kQm aa aa (ba aa (aE (m:=_) dA aa aa) (.on aa aa (ae aa)) aa (ba aa (ai isAgg3 aa aa) (.on aa aa (ae aa)) aa (ba aa (am aa aa aa) (.on aa aa (ae aa)) aa (kQv (aw aa aa aa) aa (kQm aa aa (ba aa (aj aa) (.on aa aa (ae aa)) aa (ba aa (aj aa) (.on aa aa (ae aa)) aa (ba aa (bT runUnderlying166 sizeOf3 aa aa (by decide) (by decide)) (.on aa aa (ae aa)) aa (ba aa (bH (v:=i64 42) isAgg3 (cQ 7 aa) aa aa) (.on aa aa (ae aa)) aa (ba aa (cZ (c:=42) runUnderlying3 runUnderlying25 aa (by decide)) (.on aa aa (ae aa)) aa ?_)))))))))))
 refine bG aa (ar call118 aa) (bI (q:=eU) (fun Fr=>ug B Fr x X 42)) (.on aa aa (ae aa)) aa ?_
 refine ba aa (ah isAgg134 sizeOf134 aa aa) (.on aa aa (ae aa)) aa ?_
 refine bG aa (ar call119 aa) (jO _ _ ⟨3,1,48⟩ iM 1 (by decide) (by decide)) (.on aa aa (ae aa)) aa ?_
 refine ba aa (am aa aa aa) (.on aa aa (ae aa)) aa (kQv (aw aa aa aa) aa (kQa aa aa (cg (an [0] rfl (az ?_)))))
 exact au results70 aa (fun w hh=>⟨by rw[e13];rfl,(hh.dp [0,0,0,0,0,0,0,0,0])⟩)
theorem Tryz.ownKnobs:ownKnob Tryz.prog.godebug=none:=by kernel_rfl
theorem Tryz.laidOut:laidOutB Tryz.prog=true:=by kernel_rfl
theorem CW{P:Program}{f:FuncId}{vs:Array Value}{W:World}(h:∀ w,Holds W [old W] w→Calls P f vs w (a8 W [old W] (.bool true))):
 Calls P f vs W (fun e w'=>e= .returned (.bool true)∧RowKit.Below W.heap.size W w'):=(h W (qJ W)).mono fun _ _ ⟨h1,h2⟩=>⟨h1,h2.oldb⟩
theorem uB{B:World}{sv:Value}{xs:List Int}{Fr:List HP}{w:World}(h:Holds B (iC 0 (sv,xs)::Fr) w):Holds B (dE 3 i64 0 (sv,xs)::Fr) w:=by
 rcases jM h with ⟨rfl,rfl,h2⟩ | ⟨bd,rest,rfl,h2⟩
 ·exact ew h2
 ·exact ia aa aa h2
theorem vB(B:World)(Fr:List HP):
 ∀ w,Holds B Fr w→Calls Tryz.prog 43 [].toArray w (a8 B Fr (.bool true)):=by
 refine ao func43 aa ntmps43 aa (ac (ab (kPa aa aa (ad (ac (ac (ab (ay aa (ar call70 aa) (vC _ _) .free aa aa ?_))))))))
 refine kPv (bx aa) aa (ad (bJ aa (rfl) (aq (ac (ab (aI aa (ar call71 aa) (wF _ _) .free aa aa ?_))))))
 rintro _ _ ⟨tb,rfl,rfl⟩
 refine kPa aa aa (ad (ac (ab (kPm aa aa (kPv (dw runUnderlying130 aa aa aa) aa (kPm aa aa (al aa (aj aa) (.on aa aa (ae aa)) aa aa (dQ aa (ar call72 aa) (kt _ _ _ _ _ ⟨by decide,by decide⟩) (.on aa aa (ae aa)) aa aa ?_))))))))
 refine al aa (am aa aa aa) (.on aa aa (ae aa)) aa aa (kPv (aw aa aa aa) aa (kPm aa aa (al aa (aj aa) (.on aa aa (ae aa)) aa aa (dQ aa (ar call72 aa) (kt _ _ _ _ _ ⟨by decide,by decide⟩) (.on aa aa (ae aa)) aa aa ?_))))
 refine al aa (am aa aa aa) (.on aa aa (ae aa)) aa aa (kPv (aw aa aa aa) aa (kPm aa aa (al aa (aj aa) (.on aa aa (ae aa)) aa aa (dQ aa (ar call72 aa) (kt _ _ _ _ _ ⟨by decide,by decide⟩) (.on aa aa (ae aa)) aa aa ?_))))
 refine al aa (am aa aa aa) (.on aa aa (ae aa)) aa aa (kPv (aw aa aa aa) aa (kPm aa aa (al aa (aj aa) (.on aa aa (ae aa)) aa aa (dQ aa (ar call72 aa) (kt _ _ _ _ _ ⟨by decide,by decide⟩) (.on aa aa (ae aa)) aa aa ?_))))
 refine al aa (am aa aa aa) (.on aa aa (ae aa)) aa aa (kPv (aw aa aa aa) aa (kPa aa aa (ad (an [0] rfl (az ?_)))))
 exact au results43 aa (fun w hh=>⟨rfl,(hh.dp [0])⟩)
structure HpS where
 bd:Nat
 c:Cfg
 S:bE
 o:Bool
 T:gG
 X:Option bF
def nG:Bool→Nat→bE→HP
 | true=>iU
 | false=>fD
def yx(x:Nat):Option bF→HP
 | none=>pr True
 | some X=>eU x X
def Ee(x:Nat):Option bF→Value
 | none=> .pointer none
 | some _=>ptr x
abbrev cG(bh bs bt x:Nat)(h:HpS):HP:=row bh [ptr h.bd,i64 h.c.log,i64 h.c.roots,i64 h.c.space,ptr bs,ptr bt,Ee x h.X] 149
def dC(bh:Nat)(h:HpS):HP:=hex fun (x:Nat×Nat×Nat)=>grp [cG bh x.1 x.2.1 x.2.2 h,nG h.o x.1 h.S,gg x.2.1 h.T,yx x.2.2 h.X]
section
variable {B:World} {n:Nat} {D:List Deferred} {σ:Env} {Fr:List HP} {K:Act→World→Prop} {bh bs bt x:Nat} {h:HpS} {w:World}
theorem iR(g:∀ bs bt x,GO B n D σ (cG bh bs bt x h::nG h.o bs h.S::gg bt h.T::yx x h.X::Fr) K):GO B n D σ (dC bh h::Fr) K:=fun a w st=>by
 obtain⟨x,hx⟩:=st.holds.hex
 exact g x.1 x.2.1 x.2.2 a w ⟨st.toStA,hx.grp⟩
theorem eh(hh:Holds B (cG bh bs bt x h::nG h.o bs h.S::gg bt h.T::yx x h.X::Fr) w):Holds B (dC bh h::Fr) w:=
 Holds.unhex (bs,bt,x) (Holds.ungrp (l:=[cG bh bs bt x h,nG h.o bs h.S,gg bt h.T,yx x h.X]) hh)
end
structure ef(h:HpS)(s:Dev):Prop where
 c:bA h.c
 k:AM h.S h.bd h.c s
 sw:h.o=true→lK h.S∧h.S.dirty.length≤1000000
 u:U64 s
 t1:0≤h.T.last∧h.T.last≤1000000000
 tl:h.T.at_.length≤800000
 tp:∀ p∈h.T.at_,0≤p.2∧p.2≤1000000
 x:∀ X,h.X=some X→fj X∧X.bd=h.bd∧X.c=h.c∧0<X.b.rts.length
abbrev HpS.blk(h:HpS)(s:Dev):Blk:=(s.block h.c).1
def HpS.obj(h:HpS)(s:Dev)(n:Int):db×Int:=if (bP h.T.at_ n).isSome=true then s.objOf h.c (h.blk s) ((bP h.T.at_ n).getD 0) else ((0,0,0),6)
def HpS.words(h:HpS):List Int:=(cj (h.T.at_.map Prod.fst)).map fun n=>(bP h.T.at_ n).getD 0
theorem gD(B:World)(Fr:List HP)(bh bs bt x:Nat)(h:HpS)(s:Dev)(hc:bA h.c)(hu:U64 s):
 ∀ w,Holds B (cG bh bs bt x h::aB h.bd s::Fr) w→Calls Tryz.prog 81 [ptr bh].toArray w (Ret B (fun rv H'=>∃ sv,aM sv=true∧rv=lI (h.blk s) sv∧H'=cP 0 (sv,(h.blk s).rts)::cG bh bs bt x h::aB h.bd s::Fr) (fun _ _=>False)):=by
 refine ao func81 aa ntmps81 aa (ac (ab (kPb (aD zeroValue151 aa) aa fun b2=>(ad (ac ?_)))))
 refine iH (.br [0,1,2,3,4,5,6,7] 8 (.fin [9,10,11,12,13,14]) 12 (.fin [8,9,10,11,13,14])) [8,12,13] [0,1,2,3,4,5,6,7,9,10,11] [12,13] [cG bh bs bt x h] [] (G:=Nat×Value) (fun (b3,sv)=>[(3,ptr b3),(2,ptr b2)]) (fun (b3,sv)=>row b3 [i64 (h.blk s).act,i64 (h.blk s).used,sv] 151::cP 0 (sv,(h.blk s).rts)::cG bh bs bt x h::aB h.bd s::row b2 [i64 0,i64 0,.slice none 0 0] 151::Fr) Tryz.mixed (by kernel_rfl) ?_ ?_
 ·skip
  refine sG (ak aa aa aa (aj aa) .free aa (ak aa aa aa (aK aa) .free aa (ak aa aa aa (aE (m:=_) iy aa aa) .free aa (ak aa aa aa (ai isAgg90 aa aa) .free aa (ak aa aa aa (aj aa) .free aa (ak aa aa aa (aK aa) .free aa (ak aa aa aa (aE (m:=_) dZ aa aa) .free aa (ak aa aa aa (ah isAgg134 sizeOf134 aa aa) .free aa ?_))))))))
  refine cx ?_
  refine ng aa aa ?_ ?_
  ·skip
   refine aS [2] (aI aa (ar call117 aa) (fU _ _ _ _ h.c hc hu) .free aa aa ?_)
   rintro _ _ ⟨sv14,hsv14,rfl,rfl⟩
   refine ad (sE aa (gZ (ak aa aa aa (aj aa) .free aa (ak aa aa aa (aA aa aa) .free aa (ak aa aa aa (aA aa aa) .free aa (aT aa aa (kPb (aD zeroValue151 aa) aa fun b3=>(ad (cN (aT aa aa ?_))))))))))
   refine kPs (ax (vs:=_) sizeOf151 aa aa aa (by first | rfl | exact dW (by assumption)) rfl) rfl ?_
   refine ad (cN (aQ aa aa aa (bu aa) .free aa (cx ?_)))
   exact fun a w st_=>⟨(b3,sv14),st_.to ⟨rfl,rfl,trivial⟩ (fun hh=>(hh.pk [0,0,2]))⟩
  ·skip
   refine kPb (aD zeroValue151 aa) aa fun b3=>(ad (rb (gZ (aT aa aa (aS [3] (aI aa (ar call117 aa) (fU _ _ _ _ h.c hc hu) .free aa aa ?_))))))
   rintro _ _ ⟨sv14,hsv14,rfl,rfl⟩
   refine ad (c7 aa (ak aa aa aa (aj aa) .free aa (ak aa aa aa (aA aa aa) .free aa (ak aa aa aa (aA aa aa) .free aa (aT aa aa ?_)))))
   refine kPs (ax (vs:=_) sizeOf151 aa aa aa (by first | rfl | exact dW (by assumption)) rfl) rfl ?_;refine ad ?_;refine cN ?_;refine aQ aa aa aa (bu aa) .free aa ?_;refine cx ?_
   exact fun a w st_=>⟨(b3,sv14),st_.to ⟨rfl,rfl,trivial⟩ (fun hh=>(hh.pk [2,0,2]))⟩
 rintro⟨b3,sv⟩
 refine bY (σ':=[(3,ptr b3),(2,ptr b2)]) ⟨rfl,rfl,trivial⟩ (ac (aS [1] (cE fun qv cv hqv hqi=> ?_)))
 subst hqv
 refine ab (kPv (ah isAgg151 sizeOf151 aa aa) aa ?_)
 refine kPs (ax (vs:=_) sizeOf151 aa aa aa (by first | rfl | exact dW (by assumption)) rfl) rfl ?_;refine ad ?_;refine az ?_
 exact qp results81 (.cellA aa isAgg151 sizeOf151 aa aa) (fun w hw=>⟨_,⟨.slice qv (h.blk s).rts.length cv,rfl,rfl,rfl⟩,(hw.dp [1,3])⟩)
theorem tA{α:Type}{k:Int}{v:α}:∀ {l:List (Int×α)},bP l k=some v→(k,v)∈l
 | [],h=>by cases h
 | q::l,h=>by
   unfold bP at h
   split at h
   ·rename_i e;cases h;rw[←e];exact List.mem_cons_self ..
   ·exact List.mem_cons_of_mem _ (tA h)
theorem ef.pb{h:HpS}{s:Dev}(hW:ef h s)(n:Int):0≤(bP h.T.at_ n).getD 0∧(bP h.T.at_ n).getD 0≤1000000:=by
 cases hm:bP h.T.at_ n with
 | none=>simp
 | some v=>exact hW.tp _ (tA hm)
theorem ve(B:World)(Fr:List HP)(bh bs bt x:Nat)(h:HpS)(s:Dev)(hW:ef h s)(n:Int):
 ∀ w,Holds B (cG bh bs bt x h::gg bt h.T::aB h.bd s::Fr) w→Calls Tryz.prog 87 [ptr bh,i64 n].toArray w (a8 B (cG bh bs bt x h::gg bt h.T::aB h.bd s::Fr) (.tuple #[gX (h.obj s n).1,i64 (h.obj s n).2])):=by
 refine ao func87 aa ntmps87 aa ?_
 have hc:=hW.c
 have hu:=hW.u
 have hbk:=dB (s:=s) hc hu
 have hbl:(h.blk s).rts.length≤16:=fM (s:=s) hc
 refine ac (ab (kPb (aD zeroValue160 aa) aa fun b4=>(kPa aa aa (ad (ac (ab (kPf jk isAgg130 aa aa aa aa (kPm aa aa (ay aa (ar call146 aa) (bI (q:=gg) (fun Fr=>qI _ Fr bt h.T n)) .free aa aa ?_)))))))))
 refine kPm aa aa (kPv (aA aa aa) aa (kPv (aA aa aa) aa (kPa aa aa (kPa aa aa (ad (an [7,6,5,4,0] rfl (ac (ac (ab (kPm aa aa (kPv (bx aa) aa ?_)))))))))))
 refine ad ?_
 refine aZ aa (fun h18=> ?_) (fun h18=> ?_)
 ·have hk:¬ (bP h.T.at_ n).isSome=true:=by simpa using h18
  have hres:h.obj s n=((0,0,0),6):=by unfold HpS.obj;rw[if_neg hk]
  refine ac (ab (kPv (aP aa (sg)) aa (kPs (ax (vs:=_) sizeOf160 aa aa aa aa aa) aa (kPa aa aa (ad (az ?_))))))
  exact gk results87 (.cellA aa isAgg160 sizeOf160 aa aa) (.tmp aa) (fun w hw=>⟨by rw[hres];rfl,(hw.dp [0])⟩)
 ·have hk:(bP h.T.at_ n).isSome=true:=by simpa using h18
  have hres:h.obj s n=s.objOf h.c (h.blk s) ((bP h.T.at_ n).getD 0):=by unfold HpS.obj;rw[if_pos hk]
  refine aq (ac (cR [0,1,2,3,4,5,6,7,8,10,9,11,12,13,14,15] [9,11,14] [0,1,2,3,4,5,6,7,10] [9] [cG bh bs bt x h] Tryz.mixed (by kernel_rfl) ?_))
  refine ak aa aa aa (aj aa) .free aa (ak aa aa aa (aK aa) .free aa (ak aa aa aa (aE (m:=_) iy aa aa) .free aa (ak aa aa aa (ai isAgg90 aa aa) .free aa (ak aa aa aa (aj aa) .free aa (ak aa aa aa (aK aa) .free aa (ak aa aa aa (aE (m:=_) dZ aa aa) .free aa (ak aa aa aa (ah isAgg134 sizeOf134 aa aa) .free aa ?_)))))))
  refine aQ aa aa aa (aj aa) .free aa (ak aa aa aa (aj aa) .free aa (aT aa aa (aS [1,2] (aI aa (ar call81 aa) (gD B _ bh bs bt x h s hc hu) .free aa aa ?_))))
  rintro _ _ ⟨sv,hsv,rfl,rfl⟩
  refine ad (cN (aT aa aa (ay aa (ar call147 aa) (bI (q:=aB) (fun Fr=>kf _ Fr _ _ h.c hc (h.blk s) sv hbk hsv _ (by have:=hW.pb n;omega))) .free aa aa ?_)))
  refine ad (c7 aa (aQ aa aa aa (aA aa aa) .free aa (aQ aa aa aa (aA aa aa) .free aa (aT aa aa (kPs (ax (vs:=_) sizeOf160 aa aa aa aa aa) aa (ad (c7 aa (aQ aa aa aa (bu aa) .free aa (cx (an [5,4] rfl (az ?_)))))))))))
  exact gk results87 (.cellA aa isAgg160 sizeOf160 aa aa) (.tmp aa) (fun w hw=>⟨by rw[hres];rfl,((hw.dp [0,2]).pk [0,1])⟩)
theorem qG(B:World)(Fr:List HP)(bh bs bt x:Nat)(h:HpS)(s:Dev)(hW:ef h s):
 ∀ w,Holds B (cG bh bs bt x h::gg bt h.T::Fr) w→Calls Tryz.prog 134 [ptr bh].toArray w (Ret B (fun rv H'=>aM rv=true∧H'=cP 0 (rv,h.words)::cG bh bs bt x h::gg bt h.T::Fr) (fun _ _=>False)):=by
 refine ao func134 aa ntmps134 aa ?_
 have hkl:(cj (h.T.at_.map Prod.fst)).length≤800000:=by have:=hW.tl;rw[cj,List.length_mergeSort,List.length_map];exact this
 refine ac (ab (kPa aa aa (ad (ac (ab (kPa aa aa (ad (ac (ac (aN (fun w hh=>ew (T:=25) (enc:=w64) hh) (ab ?_)))))))))))
 refine kPf jk isAgg130 aa aa aa aa (aS [2] (aI aa (ar call92 aa) (nq B _ bt h.T (by have:=hW.tl;omega)) .free aa aa ?_))
 rintro rv _ rfl
 refine aN (fun w hh=>uB hh) (cE fun qn cn hqn hqi=> ?_)
 subst hqn
 refine kPv (bB aa runUnderlying166 ⟨_,rfl⟩ rfl) aa (kPm aa aa (ad (aF (cA (ι:=Nat×Value×List Int) [13,12,2,0] (fun (k,sv,ws)=>(k≤(cj (h.T.at_.map Prod.fst)).length)∧(aM sv=true)∧(ws=((cj (h.T.at_.map Prod.fst)).take k).map (fun n=>(bP h.T.at_ n).getD 0))∧(ws.length=k)) (fun (k,sv,ws)=>[(14,i64 k),(3,sv)]) (fun (k,sv,ws)=>dE 25 w64 0 (sv,ws)::dE 3 i64 0 (.slice qn (cj (h.T.at_.map Prod.fst)).length cn,(cj (h.T.at_.map Prod.fst)))::gg bt h.T::cG bh bs bt x h::Fr) (fun (k,sv,ws)=>(cj (h.T.at_.map Prod.fst)).length - k) (0,.slice none 0 0,[]) (⟨Nat.zero_le _,rfl,rfl,rfl⟩) (fun a w st=>st.to ⟨rfl,rfl,trivial⟩ (fun hh=>(hh.pk [2]))) ?_))))
 rintro⟨k,sv,ws⟩ ⟨hk0,hsv,hws,hwl⟩
 try simp only at hk0 hsv hws hwl ⊢
 refine bY (σ':=[(14,i64 k),(3,sv),(13,_),(12,_),(2,_),(0,_)]) (aC aa) (ac (ab (kPv (am aa aa aa) aa (ad (ac ?_)))))
 refine aZ aa (fun h15=> ?_) (fun h15=> ?_)
 ·have hk:k<(cj (h.T.at_.map Prod.fst)).length:=by simpa using h15
  obtain⟨bN,oN,rfl⟩:=hqi k hk
  have hpb:=hW.pb (cj (h.T.at_.map Prod.fst))[k]
  refine aq (ac (aF (ac (ab (kPv (bT runUnderlying166 sizeOf3 aa aa (by omega) (by omega)) aa ?_)))))
  refine kPv (bH (v:=i64 (cj (h.T.at_.map Prod.fst))[k]) isAgg3 (cQ 1 aa) aa (by rw[Int.toNat_natCast,List.getElem?_map,List.getElem?_eq_getElem hk];rfl)) aa ?_
  refine kPa aa aa (ad (ac (ab (kPf jk isAgg130 aa aa aa aa (kPm aa aa (ay aa (ar call146 aa) (bI (q:=gg) (fun Fr=>qI _ Fr bt h.T (cj (h.T.at_.map Prod.fst))[k])) .free aa aa ?_))))))
  refine kPm aa aa (kPv (aA aa aa) aa (kPv (aA aa aa) aa (kPa aa aa (kPa aa aa (ad (an [6,14,3,13,12,2,0] rfl (ab (kPm aa aa (kPm aa aa (kPv (cZ runUnderlying3 runUnderlying25 aa (dX (by omega))) aa (kPb (fB runUnderlying30 sizeOf25 zeroValue25 aa aa aa) aa fun b30=> ?_)))))))))))
  refine aS [1,0] (cI aa (dD aa aa runUnderlying30 runUnderlying30 ⟨_,rfl⟩ sizeOf25 zeroValue25 aa (fun _=>rfl) gY aa aa (by omega)) .free aa aa ?_)
  rintro sv9 _ ⟨hsv9,rfl⟩
  refine kPa aa aa (ad (ab (kPv (aL aa aa) aa (kPm aa aa (ad (an [14,3,13,12,2,0] rfl ?_))))))
  exact fun a w st_=>⟨(k+1,sv9,ws++[(bP h.T.at_ (cj (h.T.at_.map Prod.fst))[k]).getD 0]),⟨by omega,hsv9,by rw[List.take_succ_eq_append_getElem hk,List.map_append, ←hws];rfl,by simp[hwl]⟩,by omega,st_.to (aC aa) (fun hh=>hh)⟩
 ·have h9:¬ k<(cj (h.T.at_.map Prod.fst)).length:=by simpa using h15
  have hk:k=(cj (h.T.at_.map Prod.fst)).length:=by omega
  have hres:ws=h.words:=by rw[hws,hk,List.take_length];rfl
  refine bC (ac (ab (kPm aa aa (kPa aa aa (ad (an [2] rfl (az ?_)))))))
  exact au results134 aa (fun w hw=>⟨_,⟨hsv,rfl⟩,by rw[←hres];exact((hw.dp [1]).pk [0,1])⟩)
theorem Bo(B:World)(Fr:List HP)(bh bs bt x:Nat)(h:HpS)(s:Dev)(hW:ef h s):
 ∀ w,Holds B (cG bh bs bt x h::gg bt h.T::aB h.bd s::Fr) w→Calls Tryz.prog 91 [ptr bh].toArray w (Ret B (fun rv H'=>aM rv=true∧H'=cP 0 (rv,h.words++(h.blk s).rts)::cG bh bs bt x h::gg bt h.T::aB h.bd s::Fr) (fun _ _=>False)):=by
 refine ao func91 aa ntmps91 aa ?_
 have hc:=hW.c
 have hu:=hW.u
 have hbk:=dB (s:=s) hc hu
 have hbl:(h.blk s).rts.length≤16:=fM (s:=s) hc
 have hwl:h.words.length≤800000:=by have:=hW.tl;simp[HpS.words,cj];exact this
 refine ac (ab (kPa aa aa (ad (ac (ab (kPm aa aa (aI aa (ar call134 aa) (qG B _ bh bs bt x h s hW) .free aa aa ?_)))))))
 rintro wv _ ⟨hwv,rfl⟩
 refine kPm aa aa (aS [1,2] (aI aa (ar call81 aa) (gD B _ bh bs bt x h s hW.c hW.u) .free aa aa ?_))
 rintro _ _ ⟨sv,hsv,rfl,rfl⟩
 refine cE fun qb cb hqb hqbi=> ?_
 subst hqb
 refine kPv (ie runUnderlying151 (t:=30) (off:=2) aa isAgg30 aa aa) aa (aS [3] (cI aa (ed (yv:=(.slice qb (h.blk s).rts.length cb)) (ys:=(h.blk s).rts) aa aa runUnderlying30 runUnderlying30 ⟨_,rfl⟩ sizeOf25 zeroValue25 aa (fun _=>rfl) gY aa aa (cQ (1 - 1) aa) (by omega)) .free aa aa ?_))
 rintro nv _ ⟨hnv,rfl⟩
 refine kPa aa aa (ad (an [2] rfl (az ?_)))
 exact au results91 aa (fun w hw=>⟨_,⟨hnv,rfl⟩,((hw.dp [1]).pk [0,0,1])⟩)
section
variable {B:World} {Fr:List HP} {bh bs bt x:Nat} {h:HpS} {w:World}
theorem qM(ho:h.o=true)(hh:Holds B (cG bh bs bt x h::iU bs h.S::gg bt h.T::yx x h.X::Fr) w):Holds B (dC bh h::Fr) w:=eh (bs:=bs) (bt:=bt) (x:=x) (by rw[ho];exact hh)
theorem wG(ho:h.o=false)(hh:Holds B (cG bh bs bt x h::fD bs h.S::gg bt h.T::yx x h.X::Fr) w):Holds B (dC bh h::Fr) w:=eh (bs:=bs) (bt:=bt) (x:=x) (by rw[ho];exact hh)
end
theorem kQ(B:World)(Fr:List HP)(bs:Nat)(S:bE)(o:Bool):∀ w,Holds B (nG o bs S::Fr) w→Calls Tryz.prog 80 [ptr bs].toArray w (a8 B (nG o bs S::Fr) (.bool o)):=by
 cases o
 ·exact mE B Fr bs S
 ·exact xq B Fr bs S
theorem HpS.obj_w{h:HpS}{s:Dev}(hW:ef h s){n:Int}(e:(h.obj s n).2=0):lL (h.obj s n).1:=by
 unfold HpS.obj at e ⊢
 split at e
 ·rename_i hm
  rw[if_pos hm]
  exact ib hW.c (dB hW.c hW.u) e
 ·cases e
def HpS.commit(h:HpS)(s:Dev):Out (Int×HpS):=if h.o=true then (h.S.commit s).then fun S s=> .ok (0,{h with o:=false,S:=S}) s else .ok (2,h) s
def HpS.alloc(h:HpS)(s:Dev)(w r:Int):Out ((Int×Int)×HpS):=if h.o=true then (cO gj h.c w r s h.S).then fun x s=>if x.1.2≠0 then .ok ((0,x.1.2),{h with S:=x.2}) s else .ok (((h.T.take x.1.1).1,0),{h with S:=x.2,T:=(h.T.take x.1.1).2}) s else .ok ((0,2),h) s
def HpS.write(h:HpS)(s:Dev)(n i v:Int):Out (Int×HpS):=if h.o=true then (if (h.obj s n).2≠0 then .ok ((h.obj s n).2,h) s else (iO gj (h.obj s n).1 i false v s h.S).then fun x s=> .ok (x.1,{h with S:=x.2}) s) else .ok (2,h) s
theorem vc(B:World)(Fr:List HP)(bh:Nat)(h:HpS)(s:Dev)(hW:ef h s):
 ∀ w,Holds B (dC bh h::aB h.bd s::Fr) w→Calls Tryz.prog 79 [ptr bh].toArray w (a8 B (dC bh h::aB h.bd s::Fr) (i64 (s.check h.c))):=by
 refine ao func79 aa ntmps79 aa (iR fun bs bt x=>(ac (ab (kPa aa aa (ad (ac (cK Tryz.mixed (by kernel_rfl) (by kernel_rfl) ?_)))))))
 refine kQm aa aa (kQv (aK aa) aa (kQv (aE (m:=_) iy aa aa) aa (kQv (ai isAgg90 aa aa) aa (kQm aa aa (kQv (aK aa) aa (kQv (aE (m:=_) dZ aa aa) aa (kQv (ah isAgg134 sizeOf134 aa aa) aa ?_)))))))
 refine bG aa (ar call130 aa) (bI (q:=aB) (fun Fr=>la _ Fr h.bd s h.c hW.c hW.u)) .free aa ?_
 refine kQa aa aa (cg (an [2] rfl (az ?_)))
 exact au results79 aa (fun w hw=>⟨rfl,eh (bs:=bs) (bt:=bt) (x:=x) hw⟩)
theorem ef.ok{h:HpS}{s:Dev}(hW:ef h s)(ho:h.o=true):U64 s∧s.n≤1000000∧lK h.S∧h.S.L.d=h.bd∧h.S.L.c=h.c:=⟨hW.u,hW.k.n,(hW.sw ho).1,hW.k.d,hW.k.c⟩
theorem xS(B:World)(Fr:List HP)(bh:Nat)(h:HpS)(s:Dev)(hW:ef h s)(n i v:Int)(hv:0≤v∧v<18446744073709551616):
 ∀ w,Holds B (dC bh h::aB h.bd s::Fr) w→Calls Tryz.prog 48 [ptr bh,i64 n,i64 i,w64 v].toArray w (Ret B (fun rv H'=>∃ a h' s',h.write s n i v= .ok (a,h') s'∧rv=i64 a∧H'=dC bh h'::aB h.bd s'::Fr) (fun ch H'=>∃ s',h.write s n i v= .off s'∧ch=dR∧H'=aB h.bd s'::Fr)):=by
 refine ao func48 aa ntmps48 aa (iR fun bs bt x=>(ac (ab (kPa aa aa (ad (ac (ac (ab (kPf dK isAgg146 aa aa aa aa (ay aa (ar call80 aa) (bI (q:=nG h.o) (fun Fr=>kQ B Fr bs h.S h.o)) .free aa aa ?_))))))))))
 refine kPv (bx aa) aa (ad ?_)
 refine aZ aa (fun h16=> ?_) (fun h16=> ?_)
 ·have ho:h.o=false:=by simpa using h16
  have hof:¬ h.o=true:=by rw[ho];decide
  refine ac (ab (kPa aa aa (ad (az ?_))))
  exact au results48 aa (fun w hw=>⟨_,⟨2,h,s,by unfold HpS.write;rw[if_neg hof],rfl,rfl⟩,eh (bs:=bs) (bt:=bt) (x:=x) hw⟩)
 ·have ho:h.o=true:=by simpa using h16
  refine aS [1] (aN (H':=iU bs h.S::_) (fun w hh=>by rw[ho] at hh;exact hh) (aq (ac (ab (kPm aa aa (kPm aa aa (aS [1,1,2] (ay aa (ar call87 aa) (ve B _ bh bs bt x h s hW n) .free aa aa ?_))))))))
  refine kPm aa aa (kPv (aA aa aa) aa (kPv (aA aa aa) aa (kPb (aD zeroValue160 aa) aa fun b9=>(kPs (ax (vs:=_) sizeOf160 aa aa aa aa aa) aa (kPa aa aa (ad (an [10,9,8,0,2,3] rfl (ac (ac (ab (kPm aa aa ?_)))))))))))
  refine kPv (am aa aa aa) aa (ad ?_)
  refine aZ aa (fun h24=> ?_) (fun h24=> ?_)
  ·have hk:(h.obj s n).2≠0:=by simpa using h24
   refine ac (ab (kPm aa aa (kPa aa aa (ad (az ?_)))))
   exact au results48 aa (fun w hw=>⟨_,⟨(h.obj s n).2,h,s,by unfold HpS.write;rw[if_pos ho,if_pos hk],rfl,rfl⟩,qM (bs:=bs) (bt:=bt) (x:=x) ho ((hw.dp [0]).pk [0,2,0,1])⟩)
  ·have hk:¬ (h.obj s n).2≠0:=by simpa using h24
   have how:=HpS.obj_w hW (n:=n) (by omega)
   refine aq (ac (aN (H':=row b9 [i64 (h.obj s n).1.1,i64 (h.obj s n).1.2.1,i64 (h.obj s n).1.2.2] 160::_) (fun w hh=>hh) (cY 8 Tryz.mixed (by kernel_rfl) (by kernel_rfl) ?_)))
   refine kQv (ah isAgg160 sizeOf160 aa aa) aa ?_
   refine kQm aa aa (kQm aa aa (kQm aa aa (kQv (aK aa) aa (kQv (aE (m:=_) dK aa aa) aa (kQv (ai isAgg146 aa aa) aa (kQv (du aa aa) aa (cg (aS [3,3] ?_))))))))
   refine aU aa (ar call88 aa) (qu B _ _ _ h.bd bs bE (fun b S=>iU b S) _ _ (uJ B h.bd bs h.c) (h.obj s n).1 how i v hv s h.S (hW.ok ho)) .free aa aa ?_ ?_
   rotate_left
   ·rintro _ _ ⟨s9,hm9,rfl,rfl⟩
    exact bi fun w hh=>⟨_,⟨s9,by unfold HpS.write;rw[if_pos ho,if_neg hk,show iO gj (h.obj s n).1 i false v s h.S= .off s9 from hm9];rfl,rfl,rfl⟩,hh.dp [1,1,1,1]⟩
   rintro _ _ ⟨a2,S2,s2,hm2,rfl,hok2,rfl⟩
   refine kPa aa aa (ad (an [8] rfl (az ?_)))
   exact au results48 aa (fun w hw=>⟨_,⟨a2,{h with S:=S2},s2,by unfold HpS.write;rw[if_pos ho,if_neg hk,show iO gj (h.obj s n).1 i false v s h.S= .ok (a2,S2) s2 from hm2];rfl,rfl,rfl⟩,qM (h:={h with S:=S2,T:=h.T}) (bs:=bs) (bt:=bt) (x:=x) ho ((hw.dp [2]).pk [2,1,1,1])⟩)
theorem vd(B:World)(Fr:List HP)(bh:Nat)(h:HpS)(s:Dev)(hW:ef h s)(wd rf:Int):
 ∀ w,Holds B (dC bh h::aB h.bd s::Fr) w→Calls Tryz.prog 47 [ptr bh,.agg #[i64 wd,i64 rf]].toArray w (Ret B (fun rv H'=>∃ a h' s',h.alloc s wd rf= .ok (a,h') s'∧rv= .tuple #[i64 a.1,i64 a.2]∧H'=dC bh h'::aB h.bd s'::Fr) (fun ch H'=>∃ s',h.alloc s wd rf= .off s'∧ch=dR∧H'=aB h.bd s'::Fr)):=by
 refine ao func47 aa ntmps47 aa (iR fun bs bt x=>(ac (ab (kPb (aY aa) aa fun b3=>(kPa aa aa (kPa aa aa (ad (ac (ac (ab (kPf dK isAgg146 aa aa aa aa ?_)))))))))))
 refine ay aa (ar call80 aa) (bI (q:=nG h.o) (fun Fr=>kQ B Fr bs h.S h.o)) .free aa aa ?_
 refine kPv (bx aa) aa (ad ?_)
 refine aZ aa (fun h13=> ?_) (fun h13=> ?_)
 ·have ho:h.o=false:=by simpa using h13
  have hof:¬ h.o=true:=by rw[ho];decide
  refine ac (ab (kPa aa aa (kPa aa aa (ad (an [5,4,3,0] rfl (az ?_))))))
  exact bU results47 aa aa (fun w hw=>⟨_,⟨(0,2),h,s,by unfold HpS.alloc;rw[if_neg hof],rfl,rfl⟩,eh (bs:=bs) (bt:=bt) (x:=x) (hw.dp [0])⟩)
 ·have ho:h.o=true:=by simpa using h13
  refine aS [2] (aN (H':=iU bs h.S::_) (fun w hh=>by rw[ho] at hh;exact hh) (aq (ac (wP [14] Tryz.mixed (by kernel_rfl) (by kernel_rfl) ?_))))
  refine Cc (kQm aa aa (kQv (aK aa) aa (kQv (aE (m:=_) iy aa aa) aa (kQv (ai isAgg90 aa aa) aa (kQm aa aa (kQv (aK aa) aa (kQv (aE (m:=_) dZ aa aa) aa (kQv (ah isAgg134 sizeOf134 aa aa) aa ?_))))))))
  refine kQv (ah isAgg102 sizeOf102 aa aa) aa ?_
  refine kQm aa aa (kQv (aK aa) aa (kQv (aE (m:=_) dK aa aa) aa (kQv (ai isAgg146 aa aa) aa (kQv (du aa aa) aa (cg (aS [5,0] ?_))))))
  refine aU aa (ar call85 aa) (uA B _ _ _ h.bd bs bE (fun b S=>iU b S) _ _ (uJ B h.bd bs h.c) h.c hW.c wd rf s h.S (hW.ok ho)) .free aa aa ?_ ?_
  rotate_left
  ·rintro _ _ ⟨s9,hm9,rfl,rfl⟩
   exact bi fun w hh=>⟨_,⟨s9,by unfold HpS.alloc;rw[if_pos ho,show cO gj h.c wd rf s h.S= .off s9 from hm9];rfl,rfl,rfl⟩,hh.dp [1,1,1,1]⟩
  rintro _ _ ⟨⟨at2,a2⟩,S2,s2,hm2,rfl,hok2,rfl⟩
  refine ad (Cd (kQm aa aa (kQv (aA aa aa) aa (kQv (aA aa aa) aa (kQa aa aa (kQa aa aa (cg (an [7,6,5,4,0] rfl (ac (ac (ab ?_)))))))))))
  refine kPm aa aa (kPv (am aa aa aa) aa (ad ?_))
  refine aZ aa (fun h33=> ?_) (fun h33=> ?_)
  ·have ha2:a2≠0:=by simpa using h33
   refine ac (ab (kPm aa aa (kPa aa aa (kPa aa aa (ad (az ?_))))))
   exact bU results47 aa aa (fun w hw=>⟨_,⟨(0,a2),{h with S:=S2},s2,by unfold HpS.alloc;rw[if_pos ho,show cO gj h.c wd rf s h.S= .ok ((at2,a2),S2) s2 from hm2];simp only[aR];rw[if_pos ha2],rfl,rfl⟩,qM (h:={h with S:=S2,T:=h.T}) (bs:=bs) (bt:=bt) (x:=x) ho ((hw.dp [2]).pk [2,1,1,1])⟩)
  ·have ha2:¬ a2≠0:=by simpa using h33
   refine aq (ac (ab (kPf jk isAgg130 aa aa aa aa (kPm aa aa (aS [4] (dQ aa (ar call72 aa) (kt B _ bt h.T at2 hW.t1) .free aa aa ?_))))))
   refine kPa aa aa (kPa aa aa (ad (an [5,4] rfl (az ?_))))
   exact bU results47 aa aa (fun w hw=>⟨_,⟨((h.T.take at2).1,0),{h with S:=S2,T:=(h.T.take at2).2},s2,by unfold HpS.alloc;rw[if_pos ho,show cO gj h.c wd rf s h.S= .ok ((at2,a2),S2) s2 from hm2];simp only[aR];rw[if_neg ha2],rfl,rfl⟩,qM (h:={h with S:=S2,T:=(h.T.take at2).2}) (bs:=bs) (bt:=bt) (x:=x) ho ((hw.dp [3]).pk [3,2,0,1])⟩)
def qg(X:bF)(p:Int):Int:=(bP X.went p).getD 0
def HpS.finR(h:HpS)(X:bF)(s:Dev)(a:Int)(h':HpS)(s':Dev):Prop:=∃ S',je h.c X.block h.S s= .ok (a,S') s'∧
 ((a≠0∧h'={h with X:=none,S:=S'})∨(a=0∧∃ ord:List (Int×Int),ord.Perm h.T.at_∧h'={h with X:=none,S:=S',T:=gG.moved (qg X) h.T.last ord}))
def HpS.colR(h:HpS)(s:Dev)(a:Int)(h':HpS)(s':Dev):Prop:=(h.o=true∧a=2∧h'=h∧s'=s)∨(h.o=false∧∃ X s1,(et h.bd h.c (h.blk s) ((h.blk s).rts++h.words)).run s= .ok X s1∧h.finR X s1 a h' s')
def HpS.colOff(h:HpS)(s s':Dev):Prop:=h.o=false∧((et h.bd h.c (h.blk s) ((h.blk s).rts++h.words)).run s= .off s'∨∃ X s1,(et h.bd h.c (h.blk s) ((h.blk s).rts++h.words)).run s= .ok X s1∧je h.c X.block h.S s1= .off s')
theorem tK{B:World}{Fr:List HP}{bh bs bt x:Nat}{h:HpS}{w:World}(ho:h.o=false)(hx:h.X=none)(hh:Holds B (cG bh bs bt x h::fD bs h.S::gg bt h.T::Fr) w):Holds B (dC bh h::Fr) w:=
 wG (bs:=bs) (bt:=bt) (x:=x) ho (by rw[hx];exact(hh.unpr (p:=True) trivial).back 3 (by simp))
theorem tN(B:World)(Fr:List HP)(bh:Nat)(h:HpS)(s:Dev)(hW:ef h s)(ho:h.o=true):
 ∀ w,Holds B (dC bh h::aB h.bd s::Fr) w→Calls Tryz.prog 49 [ptr bh].toArray w (Ret B (fun rv H'=>∃ a h' s',h.commit s= .ok (a,h') s'∧rv=i64 a∧H'=dC bh h'::aB h.bd s'::Fr) (fun ch H'=>∃ s',h.commit s= .off s'∧ch=dR∧H'=aB h.bd s'::Fr)):=by
 refine ao func49 aa ntmps49 aa (iR fun bs bt x=>(aS [1] (aN (H':=iU bs h.S::_) (fun w hh=>by rw[ho] at hh;exact hh) (aS [0,3] (aN (H':=iU bs h.S::aB h.S.L.d s::_) (fun w hh=>by rw[hW.k.d];exact hh) (ac (ab (kPa aa aa (ad (ac (ab ?_)))))))))))
 refine kPf dK isAgg146 aa aa aa aa ?_
 refine aU aa (ar call89 aa) (nh B _ bs h.S s (hW.sw ho).1 (hW.sw ho).2) .free aa aa ?_ ?_
 rotate_left
 ·rintro _ _ ⟨s9,hm9,rfl,rfl⟩
  exact bi fun w hh=>⟨_,⟨s9,by unfold HpS.commit;rw[if_pos ho,hm9];rfl,rfl,rfl⟩,by rw[hW.k.d] at hh;exact hh.dp [1,1,1]⟩
 rintro _ _ ⟨S2,s2,hm2,rfl,rfl⟩
 refine kPa aa aa (ad (az ?_))
 exact au results49 aa (fun w hw=>⟨_,⟨0,{h with o:=false,S:=S2},s2,by unfold HpS.commit;rw[if_pos ho,hm2];rfl,rfl,rfl⟩,by rw[hW.k.d] at hw;exact wG (h:={h with o:=false,S:=S2}) (bs:=bs) (bt:=bt) (x:=x) aa (hw.pk [2,0,1,1])⟩)
theorem tO(B:World)(Fr:List HP)(bh:Nat)(h:HpS)(s:Dev)(hW:ef h s)(ho:h.o=false):
 ∀ w,Holds B (dC bh h::aB h.bd s::Fr) w→Calls Tryz.prog 49 [ptr bh].toArray w (Ret B (fun rv H'=>∃ a h' s',h.commit s= .ok (a,h') s'∧rv=i64 a∧H'=dC bh h'::aB h.bd s'::Fr) (fun ch H'=>∃ s',h.commit s= .off s'∧ch=dR∧H'=aB h.bd s'::Fr)):=by
 refine ao func49 aa ntmps49 aa (iR fun bs bt x=>(aS [1] (aN (H':=fD bs h.S::_) (fun w hh=>by rw[ho] at hh;exact hh) (ac (ab (kPa aa aa (ad (ac (ab (kPf dK isAgg146 aa aa aa aa (ay aa (ar call89 aa) (bI (q:=fD) (fun Fr=>sQ B Fr bs h.S)) .free aa aa ?_)))))))))))
 refine kPa aa aa (ad (az ?_))
 exact au results49 aa (fun w hw=>⟨_,⟨2,h,s,by unfold HpS.commit;rw[if_neg (by rw[ho];decide)],rfl,rfl⟩,wG (bs:=bs) (bt:=bt) (x:=x) ho (hw.pk [1])⟩)
theorem vg(B:World)(Fr:List HP)(bh:Nat)(h:HpS)(s:Dev)(hW:ef h s):∀ w,Holds B (dC bh h::aB h.bd s::Fr) w→Calls Tryz.prog 49 [ptr bh].toArray w (Ret B (fun rv H'=>∃ a h' s',h.commit s= .ok (a,h') s'∧rv=i64 a∧H'=dC bh h'::aB h.bd s'::Fr) (fun ch H'=>∃ s',h.commit s= .off s'∧ch=dR∧H'=aB h.bd s'::Fr)):=by
 cases ho:h.o
 ·exact tO B Fr bh h s hW ho
 ·exact tN B Fr bh h s hW ho
theorem zD(B:World)(Fr:List HP)(c1 x:Nat)(X:bF)(p:Int)(hp:0≤p∧p≤1000000):
 ∀ w,Holds B (row c1 [ptr x] 147::eU x X::Fr) w→Calls Tryz.prog 187 [i64 p,ptr c1].toArray w (a8 B (row c1 [ptr x] 147::eU x X::Fr) (i64 (qg X p))):=by
 refine ao func187 aa ntmps187 aa (ac (ab (kPa aa aa (ad (ac (ab (kPv (ai isAgg147 aa aa) aa (kPm aa aa (kPv (cZ runUnderlying3 runUnderlying25 aa (dX (by omega))) aa (ay aa (ar call118 aa) (bI (q:=eU) (fun Fr=>ug B Fr x X p)) .free aa aa ?_))))))))))
 refine kPa aa aa (ad (az ?_))
 exact au results187 aa (fun w hw=>⟨rfl,hw⟩)
theorem Bd(B:World)(c1 x:Nat)(X:bF):Cr B 187 [] [ptr c1] Unit (fun _=>[row c1 [ptr x] 147,eU x X]) (fun p=>0≤p∧p≤1000000) (qg X) (fun _ e=>e) where
 enter:=call187
 says:=fun Fr p e hp w hw=>(zD B Fr c1 x X p hp w hw).mono fun en w' h=>by
  obtain⟨rfl,h⟩:=h
  exact⟨_,⟨rfl,rfl⟩,h⟩
theorem vf(B:World)(Fr:List HP)(bh bs bt x:Nat)(h:HpS)(s:Dev)(X:bF)(hx:h.X=some X)(ho:h.o=false)(hX:fj X)(hrl0:0<X.b.rts.length)(hu:U64 s)(hK:AM h.S h.bd h.c s)(htp:∀ p∈h.T.at_,0≤p.2∧p.2≤1000000):
 ∀ w,Holds B (cG bh bs bt x h::fD bs h.S::gg bt h.T::eU x X::aB h.bd s::Fr) w→Calls Tryz.prog 136 [ptr bh].toArray w (Ret B (fun rv H'=>∃ a h' s',h.finR X s a h' s'∧rv=i64 a∧H'=dC bh h'::aB h.bd s'::Fr) (fun ch H'=>∃ s',je h.c X.block h.S s= .off s'∧ch=dR∧H'=aB h.bd s'::Fr)):=by
 refine ao func136 aa ntmps136 aa (aN (H':=row bh [ptr h.bd,i64 h.c.log,i64 h.c.roots,i64 h.c.space,ptr bs,ptr bt,ptr x] 149::_) (fun w hh=>by have h9:=hh;unfold cG at h9;rw[hx] at h9;exact h9) (ac (ab (kPa aa aa (ad (ac (ab (kPf kC isAgg147 aa aa aa aa (kPb (ck zeroValue147 aa) aa fun b3=> ?_)))))))))
 refine kPs (aO sizeOf147 aa aa (by first | rfl | assumption) rfl) rfl ?_;refine ad ?_;refine ac ?_;refine ab ?_;refine kPm aa aa ?_;refine kPv (aK aa) aa ?_;refine kPv (aE (m:=_) kC aa aa) aa ?_
 refine kPs (aO sizeOf147 aa aa (by first | rfl | assumption) rfl) rfl ?_;refine ad ?_;refine an [3,2,0] rfl ?_;refine ac ?_;refine ac ?_;refine aS [1,0] ?_;refine aN (H':=cG bh bs bt x {h with X:=none}::row b3 [ptr x] 147::_) (fun w hh=>hh) ?_;refine cY 13 Tryz.mixed (by kernel_rfl) (by kernel_rfl) ?_;refine kQm aa aa ?_;refine kQv (aK aa) aa ?_;refine kQv (aE (m:=_) iy aa aa) aa ?_
 refine kQv (ai isAgg90 aa aa) aa (kQm aa aa (kQv (aK aa) aa (kQv (aE (m:=_) dZ aa aa) aa (kQv (ah isAgg134 sizeOf134 aa aa) aa ?_))))
 refine kQm aa aa (kQv (aK aa) aa (kQv (aE (m:=_) dK aa aa) aa (kQv (ai isAgg146 aa aa) aa (kQv (ai isAgg147 aa aa) aa (cg (aS [2,3,3] ?_))))))
 refine aU aa (ar call172 aa) (wR B _ bs x h.bd h.S X hX hrl0 h.c s hu hK) .free aa aa ?_ ?_
 rotate_left
 ·rintro _ _ ⟨s9,hm9,rfl,rfl⟩
  exact bi fun w hh=>⟨_,⟨s9,hm9,rfl,rfl⟩,hh.dp [1,1,1]⟩
 rintro _ _ ⟨a2,S2,s2,hm2,rfl,rfl⟩
 refine kPa aa aa (ad (an [4,3,2,0] rfl (ac (ab (kPm aa aa (kPv (am aa aa aa) aa (ad ?_)))))))
 refine aZ aa (fun h27=> ?_) (fun h27=> ?_)
 ·have ha2:a2≠0:=by simpa using h27
  refine ac (ab (kPm aa aa (kPa aa aa (ad (az ?_)))))
  exact au results136 aa (fun w hw=>⟨_,⟨a2,{h with X:=none,S:=S2},s2,⟨S2,hm2,.inl ⟨ha2,rfl⟩⟩,rfl,rfl⟩,tK (h:={h with X:=none,S:=S2}) (bs:=bs) (bt:=bt) (x:=x) ho aa ((hw.dp [1,3]).pk [2,0,1])⟩)
 ·have ha2:a2=0:=by simpa using h27
  refine aq (ac (ab (kPf jk isAgg130 aa aa aa aa (kPv (du aa aa) aa (aS [5,4,1] (aI aa (ar call186 aa) ((fun w hh=>xU B _ bt h.T _ [] [ptr b3] Unit _ _ _ _ (Bd B b3 x X) htp () w hh)) .free aa aa ?_))))))
  rintro _ _ ⟨ord,hperm,rfl⟩
  refine aN (H':=gg bt (gG.moved (qg X) h.T.last ord)::row b3 [ptr x] 147::eU x X::fD bs S2::aB h.bd s2::cG bh bs bt x {h with X:=none}::Fr) (fun w hh=>hh) (ad (an [2] rfl (ac (ab (kPa aa aa (ad (az ?_)))))))
  exact au results136 aa (fun w hw=>⟨_,⟨0,{h with X:=none,S:=S2,T:=gG.moved (qg X) h.T.last ord},s2,⟨S2,by rw[←ha2];exact hm2,.inr ⟨rfl,ord,hperm,rfl⟩⟩,rfl,rfl⟩,tK (h:={h with X:=none,S:=S2,T:=gG.moved (qg X) h.T.last ord}) (bs:=bs) (bt:=bt) (x:=x) ho aa ((hw.dp [1,1]).pk [3,1])⟩)
theorem u4{k:Int}{v:Int}:∀ {l:List (Int×Int)} {p:Int×Int},p∈mset l k v→p.2=v∨p∈l
 | [],p,h=>by
   simp only[mset,List.mem_singleton] at h
   exact .inl (by rw[h])
 | q::l,p,h=>by
   unfold mset at h
   split at h
   ·rcases List.mem_cons.1 h with h | h
    ·exact .inl (by rw[h])
    ·exact .inr (List.mem_cons_of_mem _ h)
   ·rcases List.mem_cons.1 h with h | h
    ·exact .inr (by rw[h];exact List.mem_cons_self ..)
    ·exact(u4 h).imp id (List.mem_cons_of_mem _)
theorem wt{to_:Int→Int}{P:Int→Prop}(hP:∀ p,P (to_ p)):∀ (ord:List (Int×Int)) (x:List (Int×Int)×List (Int×Int)),(∀ p∈x.1,P p.2)→(∀ p∈(ord.foldl (dt to_) x).1,P p.2)∧(ord.foldl (dt to_) x).1.length≤x.1.length+ord.length
 | [],x,h=>⟨h,by simp⟩
 | a::t,x,h=>by
   simp only[List.foldl_cons,List.length_cons]
   have hx:(∀ p∈(dt to_ x a).1,P p.2)∧(dt to_ x a).1.length≤x.1.length+1:=by
    unfold dt
    split
    ·refine⟨fun p hp=> ?_,o8 ..⟩
     rcases u4 hp with e | e
     ·rw[e];exact hP _
     ·exact h p e
    ·exact⟨h,by omega⟩
   have:=wt hP t _ hx.1
   exact⟨this.1,by omega⟩
theorem ef.moved{h:HpS}{s s':Dev}(hW:ef h s){to_:Int→Int}(hto:∀ p,0≤to_ p∧to_ p≤1000000){ord:List (Int×Int)}(hp:ord.Perm h.T.at_){S':bE}(hL:dG S'.L)(hd:S'.L.d=h.bd)(hc:S'.L.c=h.c)(hu:U64 s')(hn:s'.n=s.n):ef {h with X:=none,o:=false,S:=S',T:=gG.moved to_ h.T.last ord} s':=by
 obtain⟨g1,g2⟩:=wt (to_:=to_) (P:=fun v=>0≤v∧v≤1000000) hto ord ([],[]) (fun _ h=>by cases h)
 exact⟨hW.c,⟨hL,by rw[hn];exact hW.k.n,hd,hc⟩,fun h=>(by cases h),hu,hW.t1,by
  show(ord.foldl (dt to_) ([],[])).1.length≤_
  have h1:=hp.length_eq;have h2:=hW.tl
  simp only[List.length_nil] at g2;omega,g1,fun X hX=>(by cases hX)⟩
theorem HpS.words_b{h:HpS}{s:Dev}(hW:ef h s):(∀ v∈h.words,0≤v∧v<18446744073709551616)∧h.words.length≤800000:=
 ⟨fun v hv=>by
  obtain⟨n,_,rfl⟩:=List.mem_map.1 hv
  have:=hW.pb n;omega,by have:=hW.tl;simp[HpS.words,cj];exact this⟩
abbrev HpS.ncol(h:HpS)(s:Dev):bF:=et h.bd h.c (h.blk s) ((h.blk s).rts++h.words)
theorem ef.ncol{h:HpS}{s:Dev}(hW:ef h s):fj (h.ncol s):=
 l3 hW.c (dB hW.c hW.u) (fM hW.c) (fL hW.u) (fun v hv=>by
  rcases List.mem_append.1 hv with hv | hv
  ·exact fL hW.u v hv
  ·exact(HpS.words_b hW).1 v hv)
theorem DK{h:HpS}{s s1:Dev}{X:bF}{a:Int}{h':HpS}{s':Dev}(hW:ef h s)(ho:h.o=false)(hX:fj X)(hu:U64 s1)(hn:s1.n=s.n)(e:h.finR X s1 a h' s'):ef h' s'∧h'.o=false∧h'.X=none∧h'.bd=h.bd∧h'.c=h.c:=by
 obtain⟨S',e1,hor⟩:=e
 obtain⟨k1,k2,k3,k4,k5,_⟩:=zO (un hX) hW.k.w hu (by rw[hn];exact hW.k.n) e1
 rcases hor with ⟨_,rfl⟩ | ⟨_,ord,hp,rfl⟩
 ·exact⟨⟨hW.c,⟨k3,by rw[k2,hn];exact hW.k.n,k4.trans hW.k.d,k5.trans hW.k.c⟩,fun h2=>(by rw[show h.o=true from h2] at ho;cases ho),k1,hW.t1,hW.tl,hW.tp,fun X hX=>(by cases hX)⟩,ho,rfl,rfl,rfl⟩
 ·have h1:=hW.moved (fun p=>hX.vb p) hp k3 (k4.trans hW.k.d) (k5.trans hW.k.c) k1 (k2.trans hn)
  rw[←ho] at h1
  exact⟨h1,ho,rfl,rfl,rfl⟩
theorem DU{h:HpS}{s:Dev}{a:Int}{h':HpS}{s':Dev}(hW:ef h s)(ho:h.o=false)(e:h.colR s a h' s'):ef h' s'∧h'.o=false∧h'.X=none∧h'.bd=h.bd∧h'.c=h.c:=by
 rcases e with ⟨h1,_⟩ | ⟨_,X,s1,e1,e2⟩
 ·rw[ho] at h1;cases h1
 ·obtain⟨g1,g2,_⟩:=oH _ _ _ _ _ hW.ncol hW.u e1
  exact DK hW ho g1 g2 (vZ e1) e2
theorem rH(B:World)(Fr:List HP)(bh:Nat)(h:HpS)(s:Dev)(hW:ef h s)(hb:(s.block h.c).2=0):
 ∀ w,Holds B (dC bh h::aB h.bd s::Fr) w→Calls Tryz.prog 82 [ptr bh].toArray w (Ret B (fun rv H'=>∃ a h' s',h.colR s a h' s'∧rv=i64 a∧H'=dC bh h'::aB h.bd s'::Fr) (fun ch H'=>∃ s',h.colOff s s'∧ch=dR∧H'=aB h.bd s'::Fr)):=by
 refine ao func82 aa ntmps82 aa (iR fun bs bt x=> ?_)
 have hbk:=dB (s:=s) hW.c hW.u
 have hbl:(h.blk s).rts.length≤16:=fM (s:=s) hW.c
 obtain⟨hwb,hwl⟩:=HpS.words_b hW
 refine ac (ab (kPa aa aa (ad (ac (ac (ab (kPf dK isAgg146 aa aa aa aa (ay aa (ar call80 aa) (bI (q:=nG h.o) (fun Fr=>kQ B Fr bs h.S h.o)) .free aa aa ?_))))))))
 refine ad ?_
 refine aZ aa (fun h8=> ?_) (fun h8=> ?_)
 ·have ho:h.o=true:=by simpa using h8
  refine ac (ab (kPa aa aa (ad (az ?_))))
  exact au results82 aa (fun w hw=>⟨_,⟨2,h,s,.inl ⟨ho,rfl,rfl,rfl⟩,rfl,rfl⟩,eh (bs:=bs) (bt:=bt) (x:=x) hw⟩)
 ·have ho:h.o=false:=by simpa using h8
  refine aS [1] (aN (H':=fD bs h.S::_) (fun w hh=>by rw[ho] at hh;exact hh) (aq (ac (ab (kPm aa aa (aS [1,3] (aI aa (ar call81 aa) (gD B _ bh bs bt x h s hW.c hW.u) .free aa aa ?_)))))))
  rintro _ _ ⟨sv,hsv,rfl,rfl⟩
  refine cE fun qb cb hqb hqbi=> ?_
  subst hqb
  refine kPb (aD zeroValue151 aa) aa fun b3=> ?_
  refine kPs (ax (vs:=_) sizeOf151 aa aa aa (by first | rfl | exact dW (by assumption)) rfl) rfl ?_;refine ad ?_;refine an [3,2,0] rfl ?_;refine ac ?_;refine aN (H':=row b3 [i64 (h.blk s).act,i64 (h.blk s).used,.slice qb (h.blk s).rts.length cb] 151::_) (fun w hh=>hh) ?_
  refine cR [0,1,2,3,4,5,6,7,8,9,11,12,14,10,13,15,16,17,18,19,20] [10,13,15,16,17,20] [0,1,2,3,4,5,6,7,8,9,11,12,14] [10,13,15,16,17] [cG bh bs bt x h,row b3 [i64 (h.blk s).act,i64 (h.blk s).used,.slice qb (h.blk s).rts.length cb] 151] Tryz.mixed (by kernel_rfl) ?_
  refine ak aa aa aa (aj aa) .free aa (ak aa aa aa (aj aa) .free aa (ak aa aa aa (aK aa) .free aa (ak aa aa aa (aE (m:=_) iy aa aa) .free aa (ak aa aa aa (ai isAgg90 aa aa) .free aa (ak aa aa aa (aj aa) .free aa (ak aa aa aa (aK aa) .free aa (ak aa aa aa (aE (m:=_) dZ aa aa) .free aa (ak aa aa aa (ah isAgg134 sizeOf134 aa aa) .free aa ?_))))))))
  refine ak aa aa aa (ah isAgg151 sizeOf151 aa aa) .free aa ?_
  refine ak aa aa aa (aE (m:=_) fa aa aa) .free aa (ak aa aa aa (ai isAgg30 aa aa) .free aa (ak aa aa aa (aj aa) .free aa (aT aa aa (kPb (vq runUnderlying30 sizeOf25) aa fun b21=>(aN (H':=cP 0 (.slice (some ⟨b21,0,none⟩) 0 0,[])::_) (fun w hh=>ia (xs:=[]) aa aa hh) (ad (cN (aT aa aa (cI aa (ed (yv:= .slice qb (h.blk s).rts.length cb) (ys:=(h.blk s).rts) aa aa runUnderlying30 runUnderlying30 ⟨_,rfl⟩ sizeOf25 zeroValue25 aa (fun _=>rfl) gY aa aa (cQ (2 - 1) aa) (by simp;omega)) .free aa aa ?_)))))))))
  rintro nv2 _ ⟨hnv2,rfl⟩
  refine ad (cN (aT aa aa (aS [3,5] (aI aa (ar call134 aa) (qG B _ bh bs bt x h s hW) .free aa aa ?_))))
  rintro wv _ ⟨hwv,rfl⟩
  refine cE fun qw cw hqw hqwi=> ?_
  subst hqw
  refine ad (cN (aT aa aa (aS [3] (cI aa (ed (yv:= .slice qw h.words.length cw) (ys:=h.words) aa aa runUnderlying30 runUnderlying30 ⟨_,rfl⟩ sizeOf25 zeroValue25 aa (fun _=>rfl) gY aa aa (cQ (1 - 1) aa) (by simp;omega)) .free aa aa ?_))))
  rintro nv3 _ ⟨hnv3,rfl⟩
  refine cE fun qn cn hqn0 hqni=> ?_
  subst hqn0
  have hqn:qn=none→(h.blk s).rts++h.words=[]:=fun e=>by
   cases hl:(h.blk s).rts++h.words with
   | nil=>rfl
   | cons a t=>
     obtain⟨b,o,h⟩:=hqni 0 (by show 0<((h.blk s).rts++h.words).length;rw[hl];exact Nat.succ_pos _)
     rw[e] at h;cases h
  refine ad (cN (aT aa aa (aS [5] (aI aa (ar call133 aa) (r7 B _ h.bd h.c hW.c (h.blk s) hbk (.slice qb (h.blk s).rts.length cb) aa qn cn ((h.blk s).rts++h.words) (by simp;omega) hqn (cQ 1 aa)) .free aa aa ?_))))
  rintro _ _ ⟨x2,rfl,rfl⟩
  refine ad (cN (aQ aa aa aa (aK aa) .free aa (aQ aa aa aa (aE (m:=_) kC aa aa) .free aa (aT aa aa (aS [3] (kPs (aO sizeOf147 aa aa aa aa) aa (aN (H':=cG bh bs bt x2 {h with X:=some (h.ncol s)}::_) (fun w hh=>hh) (ad (c7 aa (cx (an [2,0] rfl ?_)))))))))))
  refine ac (ab (kPf kC isAgg147 aa aa aa aa (aS [1,5] ?_)))
  refine aU aa (ar call135 aa) (w8 B _ x2 (h.ncol s) hW.ncol s hW.u) .free aa aa ?_ ?_
  rotate_left
  ·rintro _ _ ⟨s9,hm9,rfl,rfl⟩
   exact bi fun w hh=>⟨_,⟨s9,⟨ho,.inl hm9⟩,rfl,rfl⟩,(show Holds B (aB h.bd s9::_) w from hh).dp [1,1,1,1,1,1,1]⟩
  rintro _ _ ⟨X,s1,hm1,rfl,rfl⟩
  obtain⟨hX1,hu1,hXb,hXbd,hXc,_⟩:=oH _ _ _ _ _ hW.ncol hW.u hm1
  have hn1:=vZ hm1
  refine aN (H':=eU x2 X::aB h.bd s1::_) (fun w hh=>hh) (ad (ac (aS [2] (aN (H':=cG bh bs bt x2 {h with X:=some X}::_) (fun w hh=>hh) (ab (kPm aa aa (aS [0,6,4,0,0] ?_)))))))
  refine aU aa (ar call136 aa) (vf B _ bh bs bt x2 {h with X:=some X} s1 X aa ho hX1 (by rw[hXb];exact qY hW.c hb) hu1 ⟨hW.k.w,by rw[hn1];exact hW.k.n,hW.k.d,hW.k.c⟩ hW.tp) .free aa aa ?_ ?_
  rotate_left
  ·rintro _ _ ⟨s9,hm9,rfl,rfl⟩
   exact bi fun w hh=>⟨_,⟨s9,⟨ho,.inr ⟨X,s1,hm1,hm9⟩⟩,rfl,rfl⟩,(show Holds B (aB h.bd s9::_) w from hh).dp [1,1,1,1]⟩
  rintro _ _ ⟨a2,h2,s2,hf2,rfl,rfl⟩
  refine kPa aa aa (ad (an [2] rfl (az ?_)))
  exact au results82 aa (fun w hw=>⟨_,⟨a2,h2,s2,.inr ⟨ho,X,s1,hm1,hf2⟩,rfl,rfl⟩,(hw.dp [2,2,2,2])⟩)
end Go.Proofs.YtoakdoeajpjgkaaGreatDoor
