/- Part of a law's texts. Conditions: none. -/
import Derived.Test.YtoakdoeajpjgkaaGreatDoorQL18Tl
import Derived.ProofKit
import Derived.OpenShut
import Derived.ChangeOld
import Derived.Below
import Derived.ChangeSlices
import Derived.Deep.Grids
import Derived.Deep.Strs
open Go.Proofs.Tryz
set_option linter.all false
namespace Go.Proofs.YtoakdoeajpjgkaaGreatDoor
open Go
def iI(x:Blk×Int)(b:Blk)(e:Int):Bool:=x.1.act==b.act&&x.1.used==b.used&&x.1.rts==b.rts&&x.2==e
theorem dX{x:Blk×Int}{b:Blk}{e:Int}(h:iI x b e=true):x=(b,e):=by
 obtain⟨⟨a1,a2,a3⟩,a4⟩:=x
 obtain⟨b1,b2,b3⟩:=b
 simp only[iI,Bool.and_eq_true,beq_iff_eq] at h
 obtain⟨⟨⟨rfl,rfl⟩,rfl⟩,rfl⟩:=h
 rfl
def wX(x:Int×Int)(a e:Int):Bool:=x.1==a&&x.2==e
theorem nx{x:Int×Int}{a e:Int}(h:wX x a e=true):x=(a,e):=by
 simp only[wX,Bool.and_eq_true,beq_iff_eq] at h
 exact Prod.ext h.1 h.2
def B4(x:da×Int)(o:da)(e:Int):Bool:=x.1.1==o.1&&x.1.2.1==o.2.1&&x.1.2.2==o.2.2&&x.2==e
theorem As{x:da×Int}{o:da}{e:Int}(h:B4 x o e=true):x=(o,e):=by
 simp only[B4,Bool.and_eq_true,beq_iff_eq] at h
 exact Prod.ext (Prod.ext h.1.1.1 (Prod.ext h.1.1.2 h.1.2)) h.2
theorem iH:bx ⟨3,1,48⟩:=⟨by decide,by decide,by decide,by decide,by decide,by decide⟩
theorem sO:(⟨3,1,48⟩:Cfg)=mkC 0 0 40:=rfl
abbrev c8:Cfg:=⟨3,1,8⟩
abbrev c48:Cfg:=⟨3,1,48⟩
theorem n48{N:Nat}(h:(N:Int)=c48.words):N=136:=by have:(N:Int)=136:=h.trans (by decide);omega
theorem uz(B:World)(Fr:List HP)(bd:Nat)(o:da)(ho:ls o)(i v:Int)(hv:0≤v∧v<18446744073709551616)(s:Dev)(hl:s.pow.lim<0)(hu:U64 s):
 ∀ w_,Holds B (aB bd s::Fr) w_→Calls Tryz.prog 88 [gQ o,i64 i,w64 v,.func (.func 145) [ptr bd].toArray #[]].toArray w_ (Ret B (fun rv H'=>∃ x s',iJ gh o i false v s ()= .ok (x,()) s'∧rv=i64 x∧s'.pow.lim<0∧s'.n=s.n∧U64 s'∧H'=aB bd s'::Fr) (fun _ _=>False)):=fun w_ hh=>by
 obtain⟨y,s2,hg,_,hg2,hg3⟩:=tj (o:=o) (i:=i) (v:=v) (r:=false) hl
 refine(pV B Fr _ [ptr bd] bd 0 Unit (fun _ _=>pr True) gh _ (uj B bd 0) o ho i v hv s () hu w_ ((hh.unpr (p:=True) trivial).back 1 (by simp))).mono fun en w' h=> ?_
 cases en with
 | returned rv=>
   obtain⟨H,⟨x,e',s',hm,rfl,hok,rfl⟩,hh⟩:=h
   obtain⟨rfl,rfl⟩:y=(x,e')∧s2=s':=by rw[hg] at hm;cases hm;exact⟨rfl,rfl⟩
   exact⟨_,⟨x,s2,hm,rfl,hg2,hg3,hok,rfl⟩,(hh.front 1 aa).tail⟩
 | panicked c=>
   obtain⟨H,⟨s',hm,_⟩,_⟩:=h
   rw[hg] at hm;cases hm
 | outgrown=>exact h
theorem Bc(pa:Nat):okB ((iO pa [] 56).format c8) (fun _ s=>iI (s.block c8) ⟨0,0,[0]⟩ 0)=true:=by kernel_rfl
theorem Bb(pa:Nat):okB ((iO pa [] 56).format c8) (fun _ s=>okB (cL gh c8 2 0 s ()) fun x s1=>wX x.1 40 0&&okB (cL gh c8 5 0 s1 ()) fun y _=>wX y.1 0 4)=true:=by kernel_rfl
theorem zH(pa:Nat):okB ((iO pa [] 136).format c48) (fun _ s=>okB (gS c48 [(1,2)] s []) fun out sF=>out==[40]&&iI (sF.block c48) ⟨0,3,[0]⟩ 0&&B4 (sF.objOf c48 ⟨0,3,[0]⟩ 40) (2,1,40) 0&&wX (sF.objRead (2,1,40) 0) 0 5&&okB (iJ gh (2,1,40) 1 false 9 sF ()) fun a s2=>a.1==0&&wX (s2.objRead (2,1,40) 1) 9 0)=true:=by kernel_rfl
theorem zG(pa:Nat):okB ((iO pa [] 136).format c48) (fun _ s=>okB (gS c48 [(0,1)] s []) fun out sF=>out==[40]&&iI (sF.block c48) ⟨0,2,[0]⟩ 0&&okB (eC c48 ⟨0,2,[0]⟩ (di [] [40] 0) [40] 0 sF) fun n1 s1=>n1==some 0&&okB (fC c48 (di [] [40] 0) 1 0 0 s1) fun _ s2=>iI (s2.block c48) ⟨0,2,[0]⟩ 0&&(s2.starts c48 ⟨0,2,[0]⟩).1==[(40,(1,0,40))]&&(s2.starts c48 ⟨0,2,[0]⟩).2==0)=true:=by kernel_rfl
theorem zF(pa:Nat):okB ((iO pa [] 56).format c8) (fun _ s=>s.check c8==0&&okB (s.store 34 5) fun _ s1=>s1.check c8==9)=true:=by kernel_rfl
theorem xF(B:World)(Fr:List HP):
 ∀ w,Holds B Fr w→Calls Tryz.prog 239 [].toArray w (a8 B Fr (.bool true)):=by
 refine ao func239 aa ntmps239 aa (ac (ab (kPa aa aa (ad (ac (ac (ab (ax aa (au call240 aa) (xG _ _) .free aa aa ?_))))))))
 refine kPv (bj aa) aa (ad (bH aa (rfl) (aq (ac (ab (kPv (aP aa (df _ _ _ aa aa aa)) aa (kPb (aD zeroValue134 aa) aa fun b1=>(kPs (az (vs:=_) sizeOf134 aa aa aa aa aa) aa (ad (ac (ab ?_)))))))))))
 refine kPv (ah isAgg134 sizeOf134 aa aa) aa ?_
 refine aJ aa (au call74 aa) (dQ _ _ ⟨3,1,8⟩ fY none 0 [] (by decide) (fun _ h=>absurd h (Nat.not_lt_zero _)) SlR.nil) .free aa aa ?_
 rintro _ _ ⟨bd,pa,N,s0,hN,hf,rfl,rfl⟩
 obtain rfl:N=56:=by have:(N:Int)=56:=hN.trans (by decide);omega
 have hfm:=o5 fY hN hf
 have hu0:=ii (ko pa 56) fY hf
 refine kPm aa aa (kPv (aA aa aa) aa (kPv (aA aa aa) aa (kPa aa aa (kPa aa aa (ad (am [3,2,1,0] rfl (ac (ac (ab (kPm aa aa (kPv (bj aa) aa ?_)))))))))))
 refine ad (bH aa (rfl) (aq (ac (ab (kPm aa aa (kPv (ah isAgg134 sizeOf134 aa aa) aa ?_))))))
 refine aJ aa (au call117 aa) (fO _ _ _ _ ⟨3,1,8⟩ fY hu0) .free aa aa ?_
 rintro _ _ ⟨sv,hsv,rfl,rfl⟩
 rw[dX (bX (Bc pa) hf)]
 refine cB fun qv cv hqv hqi=> ?_
 subst hqv
 refine kPm aa aa (kPv (aA aa aa) aa (kPv (aA aa aa) aa (kPb (aD zeroValue151 aa) aa fun b4=> ?_)))
 refine kPs (az (vs:=_) sizeOf151 aa aa aa (by first | rfl | exact et (by assumption)) rfl) rfl ?_;refine kPa aa aa ?_;refine ad ?_;refine am [5,4,1,0] rfl ?_;refine ac ?_;refine ab ?_;refine kPm aa aa ?_;refine kPv (al aa aa aa) aa ?_;refine kPm aa aa ?_
 refine ak aa (aE (m:=_) im aa aa) (.on aa aa (ae aa)) aa aa (ak aa (ai isAgg3 aa aa) (.on aa aa (ae aa)) aa aa (ak aa (al aa aa aa) (.on aa aa (ae aa)) aa aa (kPv (aw aa aa aa) aa (kPm aa aa (ak aa (aE (m:=_) dz aa aa) (.on aa aa (ae aa)) aa aa (ak aa (ai isAgg3 aa aa) (.on aa aa (ae aa)) aa aa (ak aa (al aa aa aa) (.on aa aa (ae aa)) aa aa (kPv (aw aa aa aa) aa (kPm aa aa (ak aa (aE (m:=_) eU aa aa) (.on aa aa (ae aa)) aa aa (ak aa (ai isAgg30 aa aa) (.on aa aa (ae aa)) aa aa ?_)))))))))))
 refine ak aa (bD aa runUnderlying30 ⟨_,rfl⟩ rfl) (.on aa aa (ae aa)) aa aa (ak aa (al aa aa aa) (.on aa aa (ae aa)) aa aa (kPv (aw aa aa aa) aa (kPm aa aa (ak aa (ah isAgg151 sizeOf151 aa aa) (.on aa aa (ae aa)) aa aa ?_))))
 refine ak aa (ah isAgg134 sizeOf134 aa aa) (.on aa aa (ae aa)) aa aa ?_
 refine ax aa (au call137 aa) (hZ _ _ ⟨3,1,8⟩ fY ⟨0,0,[0]⟩ _ ⟨⟨by decide,by decide⟩,⟨by decide,by decide⟩⟩ hsv 3 (by decide)) (.on aa aa (ae aa)) aa aa ?_
 refine ak aa (al aa aa aa) (.on aa aa (ae aa)) aa aa (kPv (aw aa aa aa) aa (kPa aa aa (ad (am [0] rfl (ay ?_)))))
 exact ar results239 aa (fun w hh=>⟨rfl,(hh.dp [0,0,0,0])⟩)
theorem xE(B:World)(Fr:List HP):
 ∀ w,Holds B Fr w→Calls Tryz.prog 236 [].toArray w (a8 B Fr (.bool true)):=by
 refine ao func236 aa ntmps236 aa (ac (ab (kPa aa aa (ad (ac (ac (ab (ax aa (au call239 aa) (xF _ _) .free aa aa ?_))))))))
 refine kPv (bj aa) aa (ad (bH aa (rfl) (aq (ac (ab (kPv (aP aa (df _ _ _ aa aa aa)) aa (kPb (aD zeroValue134 aa) aa fun b1=>(kPs (az (vs:=_) sizeOf134 aa aa aa aa aa) aa (ad (ac (ab ?_)))))))))))
 refine kPv (ah isAgg134 sizeOf134 aa aa) aa ?_
 refine aJ aa (au call74 aa) (dQ _ _ ⟨3,1,8⟩ fY none 0 [] (by decide) (fun _ h=>absurd h (Nat.not_lt_zero _)) SlR.nil) .free aa aa ?_
 rintro _ _ ⟨bd,pa,N,s0,hN,hf,rfl,rfl⟩
 obtain rfl:N=56:=by have:(N:Int)=56:=hN.trans (by decide);omega
 have hfm:=o5 fY hN hf
 have hu0:=ii (ko pa 56) fY hf
 refine kPm aa aa (kPv (aA aa aa) aa (kPv (aA aa aa) aa (kPa aa aa (kPa aa aa (ad (am [3,2,1,0] rfl (ac (ac (ab (kPm aa aa (kPv (bj aa) aa ?_)))))))))))
 refine ad (bH aa (rfl) (aq (ac (ab (kPm aa aa (kPv (ah isAgg134 sizeOf134 aa aa) aa ?_))))))
 refine kPv (aP aa (qE _ aa)) aa (kPm aa aa (kPv (dt aa aa) aa (aJ aa (au call85 aa) (mK _ _ bd ⟨3,1,8⟩ fY 2 0 s0 hfm.lim hu0) .free aa aa ?_)))
 rintro _ _ ⟨x1,s1,hm1,rfl,hl1,hn1,hu1,rfl⟩
 have hev:=bX (bX (Bb pa) hf) hm1
 simp only[Bool.and_eq_true] at hev
 rw[nx hev.1]
 refine kPm aa aa (kPv (aA aa aa) aa (kPv (aA aa aa) aa (kPa aa aa (kPa aa aa (ad (am [5,4,2,1,0] rfl (ac (ab (kPm aa aa (kPv (ah isAgg134 sizeOf134 aa aa) aa ?_))))))))))
 refine kPv (aP aa (qE _ aa)) aa (kPm aa aa (kPv (dt aa aa) aa (aJ aa (au call85 aa) (mK _ _ bd ⟨3,1,8⟩ fY 5 0 s1 hl1 hu1) .free aa aa ?_)))
 rintro _ _ ⟨x2,s2,hm2,rfl,hl2,hn2,hu2,rfl⟩
 rw[show x2=((0:Int),(4:Int)) from nx (bX hev.2 hm2)]
 refine kPm aa aa (kPv (aA aa aa) aa (kPv (aA aa aa) aa (kPa aa aa (kPa aa aa (ad (am [7,5,4,1,0] rfl (ac (ab (kPm aa aa (kPv (ah isAgg134 sizeOf134 aa aa) aa ?_))))))))))
 refine ax aa (au call119 aa) (jC _ _ ⟨3,1,8⟩ fY 0 (by decide) (by decide)) .free aa aa ?_
 refine kPv (al aa aa aa) aa (kPm aa aa (ak aa (aj aa) (.on aa aa (ae aa)) aa aa (ak aa (al aa aa aa) (.on aa aa (ae aa)) aa aa (kPv (aw aa aa aa) aa (kPm aa aa (ak aa (aj aa) (.on aa aa (ae aa)) aa aa (ak aa (al aa aa aa) (.on aa aa (ae aa)) aa aa (kPv (aw aa aa aa) aa (kPa aa aa (ad (am [0] rfl ?_)))))))))))
 refine ay ?_
 exact ar results236 aa (fun w hh=>⟨rfl,(hh.dp [0,0])⟩)
abbrev Ds(h:Int×Int):List Value:=[u8 h.1,u8 h.2]
theorem pg:mO 2 Ds:=⟨fun _=>rfl,fun _=>rfl⟩
theorem hh1{a b:Int}(h1:0≤a∧a<256)(h2:0≤b∧b<256):∀ h∈[(a,b)],(0≤h.1∧h.1<256)∧(0≤h.2∧h.2<256):=fun h hm=>by rw[List.mem_singleton.1 hm];exact⟨h1,h2⟩
theorem BN{B:World}{H:List HP}{b:Nat}{x y:Value}{T1:TypeId}{U:List Value→List HP}[fK H b [x,y] T1 U]{cap:Nat}:SlN B H (.slice (some ⟨b,0,none⟩) 1 cap) 2 [[x,y]]:=
 SlN.row (cs:=[[x,y]]) fun i c h=>by
  cases i with
  | zero=>cases h;exact⟨rfl,fun j _=>by rw[Nat.zero_mul,Nat.zero_add,Nat.zero_add]⟩
  | succ i=>cases h
theorem vh(B:World)(Fr:List HP):
 ∀ w,Holds B Fr w→Calls Tryz.prog 229 [].toArray w (a8 B Fr (.bool true)):=by
 refine ao func229 aa ntmps229 aa (ac (ab (kPa aa aa (ad (ac (ac (ab (ax aa (au call236 aa) (xE _ _) .free aa aa ?_))))))))
 refine kPv (bj aa) aa (ad (bH aa (rfl) (aq (ac (ab (kPv (aP aa (jh _ aa)) aa (kPv (aP aa (tY _ _ aa aa)) aa (kPb (lm pg (v:=(1,2)) runUnderlying190 sizeOf189 zeroValue189 ⟨⟨by decide,by decide⟩,rfl⟩ rfl aa) aa fun b17=>(aJ aa (au call168 aa) (qx _ _ 0 0 40 ⟨by decide,by decide,by decide⟩ ⟨3,1,48⟩ sO [(1,2)] (hh1 ⟨by decide,by decide⟩ ⟨by decide,by decide⟩) (by decide) (some ⟨b17,0,none⟩) 1 BN) .free aa aa ?_)))))))))
 rintro _ _ ⟨bd,pa,N,s0,sF,out,ov,sv,hfm,hN,⟨hus0,hf⟩,hfill,huF,hlF,hnF,hov,hsv,rfl,rfl⟩
 obtain rfl:=n48 hN
 have hev:=bX (bX (zH pa) hf) hfill
 simp only[Bool.and_eq_true,beq_iff_eq] at hev
 obtain⟨⟨⟨⟨rfl,e1⟩,e2⟩,e3⟩,e4⟩:=hev
 rw[dX e1]
 refine aR [2] (cB fun qo co hqo hqi=> ?_)
 subst hqo
 obtain⟨bO,oO,rfl⟩:=hqi 0 (by decide)
 have ho:ls (2,1,40):=⟨⟨by decide,by decide⟩,⟨by decide,by decide⟩,⟨by decide,by decide⟩⟩
 refine kPm aa aa (kPv (aA aa aa) aa (kPv (aA aa aa) aa (kPv (aA aa aa) aa (kPv (aA aa aa) aa (kPb (aD zeroValue134 aa) aa fun b2=>(kPb (aD zeroValue151 aa) aa fun b3=>(kPa aa aa (kPs (az (vs:=_) sizeOf134 aa aa aa aa aa) aa ?_))))))))
 refine kPs (az (vs:=_) sizeOf151 aa aa aa (by first | rfl | exact et (by assumption)) rfl) rfl ?_;refine kPa aa aa ?_;refine ad ?_;refine am [4,1,3,2,0] rfl ?_;refine ac ?_;refine ac ?_;refine ab ?_;refine kPm aa aa ?_;refine kPv (du runUnderlying90 aa aa aa) aa ?_;refine kPm aa aa ?_;refine ak aa (aj aa) (.on aa aa (ae aa)) aa aa ?_
 refine ak aa (bD aa runUnderlying166 ⟨_,rfl⟩ rfl) (.on aa aa (ae aa)) aa aa (ak aa (al aa aa aa) (.on aa aa (ae aa)) aa aa (kPv (aG aa aa aa) aa (ad (bH aa (rfl) (aq (ac (aN (H':=dC 3 i64 0 (.slice (some ⟨bO,oO,none⟩) 1 co,[40])::row b3 [i64 0,i64 3,sv] 151::row b2 [i64 3,i64 1,i64 48] 134::cS 0 (sv,[0])::aB bd sF::Fr) (fun w hh=>by have h:=((hh.dp [5]).pk [2]);exact h) ?_)))))))
 refine kI (.br [0,1,2,3,4,5] 6 (.fin [7,8,9,10,11,12]) 10 (.fin [6,7,8,9,11,12])) [6,10,11] [0,1,2,3,4,5,7,8,9] [10,11] [row b2 [i64 3,i64 1,i64 48] 134,row b3 [i64 0,i64 3,sv] 151,dC 3 i64 0 (.slice (some ⟨bO,oO,none⟩) 1 co,[40])] [1,0] (G:=Nat) (fun b5=>[(5,ptr b5),(6,i64 (sF.objOf ⟨3,1,48⟩ ⟨0,3,[0]⟩ 40).2)]) (fun b5=>row b5 [i64 (sF.objOf ⟨3,1,48⟩ ⟨0,3,[0]⟩ 40).1.1,i64 (sF.objOf ⟨3,1,48⟩ ⟨0,3,[0]⟩ 40).1.2.1,i64 (sF.objOf ⟨3,1,48⟩ ⟨0,3,[0]⟩ 40).1.2.2] 160::dC 3 i64 0 (.slice (some ⟨bO,oO,none⟩) 1 co,[40])::row b3 [i64 0,i64 3,sv] 151::row b2 [i64 3,i64 1,i64 48] 134::cS 0 (sv,[0])::aB bd sF::Fr) Tryz.mixed (by kernel_rfl) ?_ ?_
 ·skip
  refine wJ (an aa aa aa (aj aa) .free aa (an aa aa aa (ah isAgg134 sizeOf134 aa aa) .free aa ?_))
  refine an aa aa aa (ah isAgg151 sizeOf151 aa aa) .free aa ?_
  refine an aa aa aa (aj aa) .free aa (an aa aa aa (cq runUnderlying166 sizeOf3 aa aa (by decide) (by decide)) .free aa (an aa aa aa (bP (v:=i64 40) isAgg3 (cM 2 aa) aa aa) .free aa (cF ?_)))
  refine pP aa aa ?_ ?_
  ·skip
   refine ax aa (au call147 aa) (bG (q:=aB) (fun Fr=>jZ _ Fr _ _ ⟨3,1,48⟩ iH ⟨0,3,[0]⟩ sv ⟨⟨by decide,by decide⟩,⟨by decide,by decide⟩⟩ hsv 40 (by decide))) .free aa aa ?_
   refine ad (rV aa (jL (an aa aa aa (aj aa) .free aa (an aa aa aa (aA aa aa) .free aa (an aa aa aa (aA aa aa) .free aa (aS aa aa (kPb (aD zeroValue160 aa) aa fun b5=>(ad (cO (aS aa aa (kPs (az (vs:=_) sizeOf160 aa aa aa aa aa) aa ?_)))))))))))
   refine ad (cO (aU aa aa aa (bC aa) .free aa (cF ?_)))
   exact fun a w st_=>⟨b5,st_.to (aC aa) (fun hh=>hh)⟩
  ·skip
   refine kPb (aD zeroValue160 aa) aa fun b5=>(ad (ug (jL (aS aa aa (ax aa (au call147 aa) (bG (q:=aB) (fun Fr=>jZ _ Fr _ _ ⟨3,1,48⟩ iH ⟨0,3,[0]⟩ sv ⟨⟨by decide,by decide⟩,⟨by decide,by decide⟩⟩ hsv 40 (by decide))) .free aa aa ?_)))))
   refine ad (c6 aa (an aa aa aa (aj aa) .free aa (an aa aa aa (aA aa aa) .free aa (an aa aa aa (aA aa aa) .free aa (aS aa aa (kPs (az (vs:=_) sizeOf160 aa aa aa aa aa) aa (ad (cO (aU aa aa aa (bC aa) .free aa (cF ?_))))))))))
   exact fun a w st_=>⟨b5,st_.to (aC aa) (fun hh=>hh)⟩
 intro b5
 refine cg (σ':=[(5,ptr b5),(6,i64 (sF.objOf ⟨3,1,48⟩ ⟨0,3,[0]⟩ 40).2),(1,_),(0,_)]) (aC aa) (ac ?_)
 rw[show sF.objOf ⟨3,1,48⟩ ⟨0,3,[0]⟩ 40=(((2:Int),(1:Int),(40:Int)),(0:Int)) from As e2]
 refine ab (kPv (ah isAgg160 sizeOf160 aa aa) aa ?_)
 refine kPm aa aa (ax aa (au call237 aa) (bG (q:=aB) (fun Fr=>sC _ Fr _ _ (2,1,40) ho 0)) .free aa aa ?_)
 refine kPm aa aa (kPv (aA aa aa) aa (kPv (aA aa aa) aa (kPa aa aa (kPa aa aa (ad (am [8,5,6,1,0] rfl (ac (ab (kPv (ah isAgg160 sizeOf160 aa aa) aa ?_)))))))))
 refine kPm aa aa (kPv (dt aa aa) aa (aR [5] (aJ aa (au call88 aa) (uz B _ bd (2,1,40) ho 1 9 (by decide) sF hlF huF) .free aa aa ?_)))
 rintro _ _ ⟨x2,s2,hm2,rfl,hl2,hn2,hu2,rfl⟩
 have hev2:=bX e4 hm2
 simp only[Bool.and_eq_true,beq_iff_eq] at hev2
 obtain⟨f1,f2⟩:=hev2
 obtain rfl:x2=0:=f1
 refine kPa aa aa (ad (ac (ab (kPv (ah isAgg160 sizeOf160 aa aa) aa ?_))))
 refine kPm aa aa (ax aa (au call237 aa) (bG (q:=aB) (fun Fr=>sC _ Fr _ _ (2,1,40) ho 1)) .free aa aa ?_)
 refine kPm aa aa (kPv (aA aa aa) aa (kPv (aA aa aa) aa (kPa aa aa (kPa aa aa (ad (am [11,10,9,8,5,6,1,0] rfl (ac ?_)))))))
 rw[show sF.objRead (2,1,40) 0=((0:Int),(5:Int)) from nx e3,show s2.objRead (2,1,40) 1=((9:Int),(0:Int)) from nx f2]
 refine ab (kPm aa aa (kPv (al aa aa aa) aa (kPm aa aa (ak aa (aj aa) (.on aa aa (ae aa)) aa aa (ak aa (al aa aa aa) (.on aa aa (ae aa)) aa aa (kPv (aw aa aa aa) aa (kPm aa aa (ak aa (aj aa) (.on aa aa (ae aa)) aa aa (ak aa (al aa aa aa) (.on aa aa (ae aa)) aa aa (kPv (aw aa aa aa) aa (kPm aa aa ?_)))))))))))
 refine ak aa (aj aa) (.on aa aa (ae aa)) aa aa (ak aa (al aa aa aa) (.on aa aa (ae aa)) aa aa (kPv (aw aa aa aa) aa (kPm aa aa (ak aa (aj aa) (.on aa aa (ae aa)) aa aa (ak aa (al aa aa aa) (.on aa aa (ae aa)) aa aa (kPv (aw aa aa aa) aa (kPm aa aa (ak aa (ah isAgg160 sizeOf160 aa aa) (.on aa aa (ae aa)) aa aa ?_))))))))
 refine ak aa (aj aa) (.on aa aa (ae aa)) aa aa (aJ aa (au call196 aa) (pW _ _ (2,1,40) bd) (.on aa aa (ae aa)) aa aa ?_)
 rintro _ _ ⟨n1,n2,rfl,rfl⟩
 refine ak aa (nB runUnderlying282 ⟨_,_,_,rfl⟩ rfl aa aa) (.on aa aa (ae aa)) aa aa (kPv (aw aa aa aa) aa (kPa aa aa (ad (am [0] rfl (ay ?_)))))
 exact ar results229 aa (fun w hh=>⟨rfl,(hh.dp [0,0,0,0,0,0,0,0])⟩)
theorem vg(B:World)(Fr:List HP):
 ∀ w,Holds B Fr w→Calls Tryz.prog 216 [].toArray w (a8 B Fr (.bool true)):=by
 refine ao func216 aa ntmps216 aa (ac (ab (kPa aa aa (ad (ac (ac (ab (ax aa (au call229 aa) (vh _ _) .free aa aa ?_))))))))
 refine kPv (bj aa) aa (ad (bH aa (rfl) (aq (ac (ab (kPv (aP aa (jh _ aa)) aa (kPv (aP aa (gZ _ aa)) aa (kPb (lm pg (v:=(0,1)) runUnderlying190 sizeOf189 zeroValue189 ⟨⟨by decide,by decide⟩,rfl⟩ rfl aa) aa fun b12=>(aJ aa (au call114 aa) (kF _ _ 0 0 40 ⟨by decide,by decide,by decide⟩ ⟨3,1,48⟩ sO [(0,1)] (hh1 ⟨by decide,by decide⟩ ⟨by decide,by decide⟩) (by decide) (some ⟨b12,0,none⟩) _ BN none 0 [] SlR.nil (fun _ h=>(by cases h)) (by decide) (fun _ h=>absurd h (Nat.not_lt_zero _)) 0 (by decide)) .free aa aa ?_)))))))))
 rintro _ _ ⟨bd,pa,N,s0,sF,out,hfm,hN,⟨hus0,hf⟩,hfill,hor⟩
 obtain rfl:=n48 hN
 have hev:=bX (bX (zG pa) hf) hfill
 simp only[Bool.and_eq_true,beq_iff_eq] at hev
 obtain⟨⟨rfl,e1⟩,e2⟩:=hev
 rw[dX e1] at hor
 rcases hor with ⟨n1,n2,s1,s2,ov,sv,hl1,hl2,hu2,hlm2,hn2,hov,hsv,rfl,rfl⟩ | ⟨s1,hl1,_⟩
 rotate_left
 ·have e3:=bX e2 hl1
  simp only[Bool.and_eq_true,beq_iff_eq] at e3
  exact absurd e3.1 (by simp)
 have e3:=bX e2 hl1
 simp only[Bool.and_eq_true,beq_iff_eq] at e3
 obtain⟨e4,e5⟩:=e3
 obtain rfl:n1=0:=by injection e4
 have e6:=bX e5 hl2
 simp only[Bool.and_eq_true,beq_iff_eq] at e6
 obtain⟨⟨e7,e8⟩,e9⟩:=e6
 rw[dX e7]
 refine aR [2] (cB fun qo co hqo hqi=> ?_)
 subst hqo
 obtain⟨bO,oO,rfl⟩:=hqi 0 (by decide)
 refine kPm aa aa (kPv (aA aa aa) aa (kPv (aA aa aa) aa (kPv (aA aa aa) aa (kPv (aA aa aa) aa (kPb (aD zeroValue134 aa) aa fun b2=>(kPb (aD zeroValue151 aa) aa fun b3=>(kPa aa aa (kPs (az (vs:=_) sizeOf134 aa aa aa aa aa) aa ?_))))))))
 refine kPs (az (vs:=_) sizeOf151 aa aa aa (by first | rfl | exact et (by assumption)) rfl) rfl ?_;refine kPa aa aa ?_;refine ad ?_;refine am [4,1,3,2,0] rfl ?_;refine ac ?_;refine ac ?_;refine ab ?_;refine kPm aa aa ?_;refine kPv (du runUnderlying90 aa aa aa) aa ?_;refine kPm aa aa ?_;refine ak aa (aj aa) (.on aa aa (ae aa)) aa aa ?_
 refine ak aa (ah isAgg134 sizeOf134 aa aa) (.on aa aa (ae aa)) aa aa ?_
 refine ak aa (ah isAgg151 sizeOf151 aa aa) (.on aa aa (ae aa)) aa aa ?_
 refine aJ aa (au call183 aa) (nP _ _ bd ⟨3,1,48⟩ ⟨0,2,[0]⟩ sv hsv) (.on aa aa (ae aa)) aa aa ?_
 rintro _ _ ⟨c3,c4,c5,rfl,rfl⟩
 refine ak aa (nB runUnderlying266 ⟨_,_,_,rfl⟩ rfl aa aa) (.on aa aa (ae aa)) aa aa (kPv (aG aa aa aa) aa (ad (am [26,4,1,3,2,0] rfl (bH aa (rfl) (aq (ac (ab (kPm aa aa (kPv (ah isAgg134 sizeOf134 aa aa) aa ?_)))))))))
 refine kPv (ah isAgg151 sizeOf151 aa aa) aa ?_
 refine aR [7] (aJ aa (au call180 aa) (nL _ _ bd s2 ⟨3,1,48⟩ iH ⟨0,2,[0]⟩ sv ⟨⟨by decide,by decide⟩,⟨by decide,by decide⟩⟩ hsv) .free aa aa ?_)
 rintro _ _ ⟨mb,rfl,rfl⟩
 rw[e8,e9]
 refine kPm aa aa (kPv (aA aa aa) aa (kPv (aA aa aa) aa (kPa aa aa (kPa aa aa (ad (am [6,5,4,0] rfl (ac (ab (kPm aa aa (kPv (al aa aa aa) aa (kPm aa aa ?_)))))))))))
 refine ak aa (aj aa) (.on aa aa (ae aa)) aa aa (ak aa (wo aa runUnderlying259 aa) (.on aa aa (ae aa)) aa aa (ak aa (al aa aa aa) (.on aa aa (ae aa)) aa aa (kPv (aw aa aa aa) aa (kPm aa aa (ak aa (aj aa) (.on aa aa (ae aa)) aa aa (ak aa (bD aa runUnderlying166 ⟨_,rfl⟩ rfl) (.on aa aa (ae aa)) aa aa (ak aa (al aa aa aa) (.on aa aa (ae aa)) aa aa (kPv (aw aa aa aa) aa (kPm aa aa (ak aa (aj aa) (.on aa aa (ae aa)) aa aa (ak aa (aj aa) (.on aa aa (ae aa)) aa aa ?_)))))))))))
 refine ak aa (cq runUnderlying166 sizeOf3 aa aa (by decide) (by decide)) (.on aa aa (ae aa)) aa aa (ak aa (bP (v:=i64 40) isAgg3 (cM 7 aa) aa aa) (.on aa aa (ae aa)) aa aa (ak aa ((li runUnderlying259 runUnderlying3 zeroValue160 aa aa).eq (yE _)) (.on aa aa (ae aa)) aa aa (ak aa (xt runUnderlying160 (t:=102) (off:=0) aa isAgg102 sizeOf102 aa) (.on aa aa (ae aa)) aa aa (ak aa (gY runUnderlying102 (t:=3) (off:=0) aa isAgg3 aa aa) (.on aa aa (ae aa)) aa aa (ak aa (al aa aa aa) (.on aa aa (ae aa)) aa aa (kPv (aw aa aa aa) aa (kPa aa aa (ad (am [0] rfl (ay ?_))))))))))
 exact ar results216 aa (fun w hh=>⟨rfl,(hh.dp [0,0,0,0,0,0,0,0,0,0])⟩)
def hs2:List (Int×Int):=[(0,1),(0,2)]
theorem hh2:∀ h∈[((0:Int),(1:Int)),(0,2)],(0≤h.1∧h.1<256)∧(0≤h.2∧h.2<256):=fun h hm=>by
 simp only[List.mem_cons,List.not_mem_nil,or_false] at hm
 rcases hm with rfl | rfl<;>exact⟨by decide,by decide⟩
theorem CK{B:World}{H:List HP}{b:Nat}{x y z u:Value}{T1:TypeId}{U:List Value→List HP}[fK H b [x,y,z,u] T1 U]{cap:Nat}:SlN B H (.slice (some ⟨b,0,none⟩) 2 cap) 2 [[x,y],[z,u]]:=
 SlN.row (cs:=[[x,y],[z,u]]) fun i c h=>by
  cases i with
  | zero=>
    cases h
    refine⟨rfl,fun j hj=> ?_⟩
    rcases j with _ | _ | j
    ·rfl
    ·rfl
    ·omega
  | succ i=>
    cases i with
    | zero=>
      cases h
      refine⟨rfl,fun j hj=> ?_⟩
      rcases j with _ | _ | j
      ·rfl
      ·rfl
      ·omega
    | succ i=>cases h
theorem wz{α:Type}{B:World}{σ:Env}{H:List HP}{P:Program}{m:Nat}{enc:α→List Value}(he:mO m enc){d:Option Tmp}{ty:TypeId}{p:String}{af:Array Edge}{g:Option (Nat×Bool)}{t e:TypeId}{x y:Operand}{v u:α}{xv yv z:Value}(ht:∀ w,(underlying t).run P w= .ok (.slice e) w)(hs:∀ w,(sizeOf e).run P w= .ok m w)(hz:∀ w,(zeroValue e).run P w= .ok z w)(hm0:(0<m∧m≤1000)∧z.cells.size=m)(hx:evO σ x=some xv)(hv:xv.cells=(enc v).toArray)(hy:evO σ y=some yv)(hu:yv.cells=(enc u).toArray):
 Chg P B σ H ⟨d,.buildSlice t 2 #[(0,x),(1,y)],ty,p,af,g⟩ (fun r H'=>∃ b,r= .slice (some ⟨b,0,none⟩) 2 2∧H'=row b (enc v++enc u) e::H):=by
 intro a w kn hh
 refine⟨.value (.slice (some ⟨w.heap.size,0,none⟩) 2 2),{w with heap:=w.heap.push (.cells (enc v++enc u).toArray e)},?_,_,.inl aa,_,⟨_,rfl,rfl⟩,by simpa [row] using hh.new _⟩
 have h1:m≠0:=by omega
 have h2:¬ 16777216<2*m:=by omega
 have hl:(enc v).length=m:=he.len v
 have hl2:(enc u).length=m:=he.len u
 have key:∀ (k:Nat) (vs:List Value) (a:Array Value) (j:Nat),k+vs.length≤a.size→(List.foldl (fun (cs:Array Value) (x:Value×Nat)=>cs.setIfInBounds (k+x.2) x.1) a vs.zipIdx)[j]? =if k≤j∧j<k+vs.length then vs[j - k]? else a[j]? :=by
  intro k vs a j h
  have:=kJ vs k a h j
  rw[←this]
  congr 1
  have hz:vs.zipIdx k=vs.zipIdx.map fun x=>(x.1,k+x.2):=by
   apply List.ext_getElem?
   intro i
   simp[List.getElem?_zipIdx]
   cases vs[i]?<;>simp
  rw[hz,List.foldl_map]
 have hsz:∀ (g:Nat→Nat) (l:List (Value×Nat)) (a:Array Value),(List.foldl (fun (cs:Array Value) (x:Value×Nat)=>cs.setIfInBounds (g x.2) x.1) a l).size=a.size:=by
  intro g l
  induction l with
  | nil=>intro a;rfl
  | cons x l ih=>intro a;rw[List.foldl_cons,ih];simp
 simp[execOp,Instr.buildSlice,ht,hs,Instr.fill,cZ,hz,kn.eval hx,hv,kn.eval hy,hu,h1,h2,hl,hl2]
 generalize hA:Array.map (fun x=>z.cells[x%z.cells.size]!) (Array.range (2*m))=A
 have hAs:A.size=2*m:=by rw[←hA];simp
 rw[if_neg (by omega),if_neg (by omega),if_neg (by rw[hsz (fun x=>x) _ A];omega)]
 generalize hF:List.foldl (fun (cs:Array Value) (x:Value×Nat)=>cs.setIfInBounds x.snd x.fst) A (enc v).zipIdx=F
 have hFs:F.size=2*m:=by rw[←hF,hsz (fun x=>x) _ A];exact hAs
 have hF2:∀ j,F[j]? =if j<m then (enc v)[j]? else A[j]? :=fun j=>by
  have:=kJ (enc v) 0 A (by omega) j
  rw[←hF,this]
  simp[hl]
 have e9:List.foldl (fun (cs:Array Value) (x:Value×Nat)=>cs.setIfInBounds (m+x.snd) x.fst) F (enc u).zipIdx=(enc v++enc u).toArray:=by
  apply Array.ext_getElem?
  intro j
  rw[key m (enc u) F j (by omega),hF2,show(enc v++enc u).toArray[j]? =(enc v++enc u)[j]? by simp,List.getElem?_append,hl,hl2]
  by_cases h3:j<m
  ·rw[if_neg (by omega),if_pos h3,if_pos h3]
  ·rw[if_neg h3]
   by_cases h4:j<m+m
   ·rw[if_pos (by omega),if_neg h3]
   ·rw[if_neg (by omega),if_neg h3,List.getElem?_eq_none (by omega),Array.getElem?_eq_none (by omega)]
 simp only[e9]
 rfl
theorem zE(pa:Nat):okB ((iO pa [] 136).format c48) (fun _ s=>okB (gS c48 [(0,1),(0,2)] s []) fun out sF=>out==[40,42]&&iI (sF.block c48) ⟨0,5,[0]⟩ 0&&okB (eC c48 ⟨0,5,[0]⟩ (di [] [40,42] 0) [40,42] 0 sF) fun n1 s1=>n1==some 0&&okB (fC c48 (di [] [40,42] 0) 1 0 0 s1) fun _ s2=>iI (s2.block c48) ⟨0,5,[0]⟩ 0&&s2.reachSize c48 ⟨0,5,[0]⟩ []==0&&s2.reachSize c48 ⟨0,5,[0]⟩ [42]==3)=true:=by kernel_rfl
theorem zD(pa bd:Nat):okB ((iO pa [] 136).format c48) (fun _ s=>okB (gS c48 [(0,1)] s []) fun out sF=>out==[40]&&iI (sF.block c48) ⟨0,2,[0]⟩ 0&&okB (eC c48 ⟨0,2,[0]⟩ (di [] [40] 0) [40] 0 sF) fun n1 s1=>n1==some 0&&okB (fC c48 (di [] [40] 0) 1 0 0 s1) fun _ s2=>iI (s2.block c48) ⟨0,2,[0]⟩ 0&&okB ((ee bd c48 ⟨0,2,[0]⟩ [0]).step s2) fun r s3=> !r.1&&okB (r.2.step s3) fun r2 _=>r2.1&&iI (r2.2.block,0) ⟨1,0,[0]⟩ 0)=true:=by kernel_rfl
def Bp(o:Option bE)(w v:Int):Bool:=match o with
 | some X=>(bJ X.went w).getD 0==v
 | none=>false
theorem zC(pa bd:Nat):okB ((iO pa [] 136).format c48) (fun _ s=>okB (gS c48 [(0,1),(0,2)] s []) fun out sF=>out==[40,42]&&iI (sF.block c48) ⟨0,5,[0]⟩ 0&&okB (eC c48 ⟨0,5,[0]⟩ (di [] [40,42] 0) [40,42] 0 sF) fun n1 s1=>n1==some 0&&okB (fC c48 (di [] [40,42] 0) 1 0 0 s1) fun _ s2=>iI (s2.block c48) ⟨0,5,[0]⟩ 0&&(bU bd c48 s2).n==0&&okB (eH bd c48 ⟨bU bd c48 s2,0,0,[],[]⟩ s2 [42]) fun r s3=>r.2.1==0&&Bp r.1 42 88&&iI (s3.block c48) ⟨1,3,[0]⟩ 0)=true:=by kernel_rfl
theorem vf(B:World)(Fr:List HP):
 ∀ w,Holds B Fr w→Calls Tryz.prog 201 [].toArray w (a8 B Fr (.bool true)):=by
 refine ao func201 aa ntmps201 aa (ac (ab (kPa aa aa (ad (ac (ac (ab (ax aa (au call216 aa) (vg _ _) .free aa aa ?_))))))))
 refine kPv (bj aa) aa (ad (bH aa (rfl) (aq (ac (ab (kPv (aP aa (df _ _ _ aa aa aa)) aa (kPb (aD zeroValue134 aa) aa fun b1=>(kPs (az (vs:=_) sizeOf134 aa aa aa aa aa) aa (ad (ac (ab ?_)))))))))))
 refine kPv (ah isAgg134 sizeOf134 aa aa) aa ?_
 refine aJ aa (au call74 aa) (dQ _ _ ⟨3,1,8⟩ fY none 0 [] (by decide) (fun _ h=>absurd h (Nat.not_lt_zero _)) SlR.nil) .free aa aa ?_
 rintro _ _ ⟨bd,pa,N,s0,hN,hf,rfl,rfl⟩
 obtain rfl:N=56:=by have:(N:Int)=56:=hN.trans (by decide);omega
 have hfm:=o5 fY hN hf
 have hu0:=ii (ko pa 56) fY hf
 have hev:=bX (zF pa) hf
 simp only[Bool.and_eq_true,beq_iff_eq] at hev
 refine kPm aa aa (kPv (aA aa aa) aa (kPv (aA aa aa) aa (kPa aa aa (kPa aa aa (ad (am [3,2,1,0] rfl (ac (ac (ab (kPm aa aa (kPv (bj aa) aa ?_)))))))))))
 refine kPm aa aa (ak aa (aj aa) (.on aa aa (ae aa)) aa aa (ak aa (ah isAgg134 sizeOf134 aa aa) (.on aa aa (ae aa)) aa aa ?_))
 refine ax aa (au call130 aa) (bG (q:=aB) (fun Fr=>kK _ Fr _ s0 ⟨3,1,8⟩ fY hu0)) (.on aa aa (ae aa)) aa aa ?_
 refine ak aa (al aa aa aa) (.on aa aa (ae aa)) aa aa (kPv (aG aa aa aa) aa (ad (am [19,2,1,0] rfl (bH aa (by rw[hev.1];rfl) (aq (ac (ab (kPm aa aa (kPv (ah isAgg134 sizeOf134 aa aa) aa ?_)))))))))
 refine ax aa (au call171 aa) (lI _ _ ⟨3,1,8⟩ fY 0 (by decide) (by decide)) .free aa aa ?_
 refine aJ aa (au call145 aa) (oB _ _ bd s0 34 5 hfm.lim hu0 (by decide)) .free aa aa ?_
 rintro _ _ ⟨x1,s1,hm1,rfl,hl1,hn1,hu1,rfl⟩
 have hev2:=bX hev.2 hm1
 simp only[beq_iff_eq] at hev2
 refine ad (ac (ab (kPm aa aa (kPv (ah isAgg134 sizeOf134 aa aa) aa ?_))))
 refine ax aa (au call130 aa) (bG (q:=aB) (fun Fr=>kK _ Fr _ s1 ⟨3,1,8⟩ fY hu1)) .free aa aa ?_
 refine kPv (al aa aa aa) aa (kPa aa aa (ad (am [0] rfl (ay ?_))))
 exact ar results201 aa (fun w hh=>⟨by rw[hev2];rfl,(hh.dp [0,0])⟩)
theorem ve(B:World)(Fr:List HP):
 ∀ w,Holds B Fr w→Calls Tryz.prog 165 [].toArray w (a8 B Fr (.bool true)):=by
 refine ao func165 aa ntmps165 aa (ac (ab (kPa aa aa (ad (ac (ac (ab (ax aa (au call201 aa) (vf _ _) .free aa aa ?_))))))))
 refine kPv (bj aa) aa (ad (bH aa (rfl) (aq (ac (ab (kPv (aP aa (jh _ aa)) aa (kPv (aP aa (gZ _ aa)) aa (kPv (aP aa (gZ _ aa)) aa (kPb (wz pg (v:=(0,1)) (u:=(0,2)) runUnderlying190 sizeOf189 zeroValue189 ⟨⟨by decide,by decide⟩,rfl⟩ rfl aa aa aa) aa fun b11=>(aJ aa (au call114 aa) (kF _ _ 0 0 40 ⟨by decide,by decide,by decide⟩ ⟨3,1,48⟩ sO [(0,1),(0,2)] (hh2) (by decide) (some ⟨b11,0,none⟩) _ CK none 0 [] SlR.nil (fun _ h=>(by cases h)) (by decide) (fun _ h=>absurd h (Nat.not_lt_zero _)) 0 (by decide)) .free aa aa ?_))))))))))
 rintro _ _ ⟨bd,pa,N,s0,sF,out,hfm,hN,⟨hus0,hf⟩,hfill,hor⟩
 obtain rfl:=n48 hN
 have hev:=bX (bX (zE pa) hf) hfill
 simp only[Bool.and_eq_true,beq_iff_eq] at hev
 obtain⟨⟨rfl,e1⟩,e2⟩:=hev
 rw[dX e1] at hor
 rcases hor with ⟨n1,n2,s1,s2,ov,sv,hl1,hl2,hu2,hlm2,hn2,hov,hsv,rfl,rfl⟩ | ⟨s1,hl1,_⟩
 rotate_left
 ·have e3:=bX e2 hl1
  simp only[Bool.and_eq_true,beq_iff_eq] at e3
  exact absurd e3.1 (by simp)
 have e3:=bX e2 hl1
 simp only[Bool.and_eq_true,beq_iff_eq] at e3
 obtain⟨e4,e5⟩:=e3
 obtain rfl:n1=0:=by injection e4
 have e6:=bX e5 hl2
 simp only[Bool.and_eq_true,beq_iff_eq] at e6
 obtain⟨⟨e7,e8⟩,e9⟩:=e6
 rw[dX e7]
 refine aR [2] (cB fun qo co hqo hqi=> ?_)
 subst hqo
 obtain⟨bO,oO,rfl⟩:=hqi 0 (by decide)
 refine kPm aa aa (kPv (aA aa aa) aa (kPv (aA aa aa) aa (kPv (aA aa aa) aa (kPv (aA aa aa) aa (kPb (aD zeroValue134 aa) aa fun b2=>(kPb (aD zeroValue151 aa) aa fun b3=>(kPa aa aa (kPs (az (vs:=_) sizeOf134 aa aa aa aa aa) aa ?_))))))))
 refine kPs (az (vs:=_) sizeOf151 aa aa aa (by first | rfl | exact et (by assumption)) rfl) rfl ?_;refine kPa aa aa ?_;refine ad ?_;refine am [4,1,3,2,0] rfl ?_;refine ac ?_;refine ac ?_;refine ab ?_;refine kPm aa aa ?_;refine kPv (du runUnderlying90 aa aa aa) aa ?_;refine kPm aa aa ?_;refine ak aa (aj aa) (.on aa aa (ae aa)) aa aa ?_
 refine ak aa (bD aa runUnderlying166 ⟨_,rfl⟩ rfl) (.on aa aa (ae aa)) aa aa (ak aa (al aa aa aa) (.on aa aa (ae aa)) aa aa (kPv (aG aa aa aa) aa (kPm aa aa (ak aa (aj aa) (.on aa aa (ae aa)) aa aa (ak aa (ah isAgg134 sizeOf134 aa aa) (.on aa aa (ae aa)) aa aa ?_)))))
 refine ak aa (ah isAgg151 sizeOf151 aa aa) (.on aa aa (ae aa)) aa aa ?_
 refine aJ aa (au call154 aa) (rP _ _ bd ⟨3,1,48⟩ ⟨0,5,[0]⟩ sv hsv (.slice none 0 0) aa) (.on aa aa (ae aa)) aa aa ?_
 rintro _ _ ⟨c1,c2,c3,c4,rfl,rfl⟩
 refine ak aa (nB runUnderlying224 ⟨_,_,_,rfl⟩ rfl aa aa) (.on aa aa (ae aa)) aa aa (kPv (aG aa aa aa) aa (ad (am [30,4,1,3,2,0] rfl (bH aa (rfl) (aq (ac (aN (H':=aB bd s2::dC 3 i64 0 (.slice (some ⟨bO,oO,none⟩) 2 co,[40,42])::row b3 [i64 0,i64 5,sv] 151::row b2 [i64 3,i64 1,i64 48] 134::cS 0 (sv,[0])::Fr) (fun w hh=>by have h:=((hh.dp [0,0,0,0,5]).pk [4,2]);exact h) (cN [0,1,2,3,4,5,6,7,8,9,10,11,12,13,14,15,16,17] [3,13,14] [6,7,8] [13] [row b2 [i64 3,i64 1,i64 48] 134,row b3 [i64 0,i64 5,sv] 151,dC 3 i64 0 (.slice (some ⟨bO,oO,none⟩) 2 co,[40,42])] Tryz.mixed (by kernel_rfl) ?_))))))))
 refine aU aa aa aa (aj aa) .free aa (aU aa aa aa (ah isAgg134 sizeOf134 aa aa) .free aa ?_)
 refine aU aa aa aa (ah isAgg151 sizeOf151 aa aa) .free aa ?_
 refine aS aa aa (ax aa (au call90 aa) (nM B _ bd ⟨3,1,48⟩ iH ⟨0,5,[0]⟩ sv ⟨⟨by decide,by decide⟩,⟨by decide,by decide⟩⟩ hsv s2 none 0 [] (fun _ h=>(by cases h)) (by decide) (fun _ h=>absurd h (Nat.not_lt_zero _)) SlR.nil) .free aa aa ?_)
 refine ad (c6 aa (aU aa aa aa (al aa aa aa) .free aa (aU aa aa aa (aj aa) .free aa (an aa aa aa (aj aa) (.on aa aa (ae (by rw[e8];rfl))) aa (an aa aa aa (ah isAgg134 sizeOf134 aa aa) (.on aa aa (ae (by rw[e8];rfl))) aa ?_)))))
 refine an aa aa aa (ah isAgg151 sizeOf151 aa aa) (.on aa aa (ae (by rw[e8];rfl))) aa ?_
 refine aU aa aa aa (aj aa) (.on aa aa (ae (by rw[e8];rfl))) aa (aU aa aa aa (cq runUnderlying166 sizeOf3 aa aa (by decide) (by decide)) (.on aa aa (ae (by rw[e8];rfl))) aa (aU aa aa aa (bP (v:=i64 42) isAgg3 (cM 1 aa) aa aa) (.on aa aa (ae (by rw[e8];rfl))) aa (aU aa aa aa (cX (c:=42) runUnderlying3 runUnderlying25 aa (by decide)) (.on aa aa (ae (by rw[e8];rfl))) aa (aS aa aa (cJ aa (fW runUnderlying30 sizeOf25 zeroValue25 aa aa aa) (.on aa aa (ae (by rw[e8];rfl))) aa aa ?_)))))
 rintro _ _ ⟨b44,rfl,rfl⟩
 refine ad (cO (aR [1] (aS aa aa (ax aa (au call90 aa) (nM B _ bd ⟨3,1,48⟩ iH ⟨0,5,[0]⟩ sv ⟨⟨by decide,by decide⟩,⟨by decide,by decide⟩⟩ hsv s2 (some ⟨b44,0,none⟩) 1 [42] (fun v h=>by rw[List.mem_singleton.1 h];decide) (by decide) (fun _ _=>⟨_,_,rfl⟩) (SlR.row (b:=b44) aa aa)) (.on aa aa (ae (by rw[e8];rfl))) aa aa ?_))))
 refine ad (c6 aa (aU aa aa aa (al aa aa aa) (.on aa aa (ae (by rw[e8];rfl))) aa (aU aa aa aa (aw aa (by rw[e8];rfl) aa) .free aa (aU aa aa aa (bC aa) .free aa (cF (am [0] rfl (ay ?_)))))))
 exact ar results165 aa (fun w hh=>⟨by rw[e9];rfl,(hh.dp [0,0,0,0,0,0])⟩)
theorem vd(B:World)(Fr:List HP):
 ∀ w,Holds B Fr w→Calls Tryz.prog 113 [].toArray w (a8 B Fr (.bool true)):=by
 refine ao func113 aa ntmps113 aa (ac (ab (kPa aa aa (ad (ac (ac (ab (ax aa (au call165 aa) (ve _ _) .free aa aa ?_))))))))
 refine kPv (bj aa) aa (ad (bH aa (rfl) (aq (ac (ab (kPv (aP aa (jh _ aa)) aa (kPv (aP aa (gZ _ aa)) aa (kPb (lm pg (v:=(0,1)) runUnderlying190 sizeOf189 zeroValue189 ⟨⟨by decide,by decide⟩,rfl⟩ rfl aa) aa fun b13=>(aJ aa (au call114 aa) (kF _ _ 0 0 40 ⟨by decide,by decide,by decide⟩ ⟨3,1,48⟩ sO [(0,1)] (hh1 ⟨by decide,by decide⟩ ⟨by decide,by decide⟩) (by decide) (some ⟨b13,0,none⟩) _ BN none 0 [] SlR.nil (fun _ h=>(by cases h)) (by decide) (fun _ h=>absurd h (Nat.not_lt_zero _)) 0 (by decide)) .free aa aa ?_)))))))))
 rintro _ _ ⟨bd,pa,N,s0,sF,out,hfm,hN,⟨hus0,hf⟩,hfill,hor⟩
 obtain rfl:=n48 hN
 have hev:=bX (bX (zD pa bd) hf) hfill
 simp only[Bool.and_eq_true,beq_iff_eq] at hev
 obtain⟨⟨rfl,e1⟩,e2⟩:=hev
 rw[dX e1] at hor
 rcases hor with ⟨n1,n2,s1,s2,ov,sv,hl1,hl2,hu2,hlm2,hn2,hov,hsv,rfl,rfl⟩ | ⟨s1,hl1,_⟩
 rotate_left
 ·have e3:=bX e2 hl1
  simp only[Bool.and_eq_true,beq_iff_eq] at e3
  exact absurd e3.1 (by simp)
 have e3:=bX e2 hl1
 simp only[Bool.and_eq_true,beq_iff_eq] at e3
 obtain⟨e4,e5⟩:=e3
 obtain rfl:n1=0:=by injection e4
 have e6:=bX e5 hl2
 simp only[Bool.and_eq_true,beq_iff_eq] at e6
 obtain⟨e7,e8⟩:=e6
 rw[dX e7]
 refine aR [2] (cB fun qo co hqo hqi=> ?_)
 subst hqo
 obtain⟨bO,oO,rfl⟩:=hqi 0 (by decide)
 refine kPm aa aa (kPv (aA aa aa) aa (kPv (aA aa aa) aa (kPv (aA aa aa) aa (kPv (aA aa aa) aa (kPb (aD zeroValue134 aa) aa fun b2=>(kPb (aD zeroValue151 aa) aa fun b3=>(kPa aa aa (kPs (az (vs:=_) sizeOf134 aa aa aa aa aa) aa ?_))))))))
 refine kPs (az (vs:=_) sizeOf151 aa aa aa (by first | rfl | exact et (by assumption)) rfl) rfl ?_;refine kPa aa aa ?_;refine ad ?_;refine am [4,1,3,2,0] rfl ?_;refine ac ?_;refine ac ?_;refine ab ?_;refine kPm aa aa ?_;refine kPv (du runUnderlying90 aa aa aa) aa ?_;refine kPm aa aa ?_;refine ak aa (aj aa) (.on aa aa (ae aa)) aa aa ?_
 refine ak aa (bD aa runUnderlying166 ⟨_,rfl⟩ rfl) (.on aa aa (ae aa)) aa aa (ak aa (al aa aa aa) (.on aa aa (ae aa)) aa aa (kPv (aG aa aa aa) aa (ad (am [25,1,3,2,0] rfl (bH aa (rfl) (aq (ac (ab (kPm aa aa (kPv (ah isAgg134 sizeOf134 aa aa) aa ?_))))))))))
 refine kPv (ah isAgg151 sizeOf151 aa aa) aa ?_
 refine kPb (fW runUnderlying30 sizeOf25 zeroValue25 aa aa aa) aa fun b29=>(aR [4] (aJ aa (au call133 aa) (rC B _ bd ⟨3,1,48⟩ iH ⟨0,2,[0]⟩ ⟨⟨by decide,by decide⟩,⟨by decide,by decide⟩⟩ sv hsv (some ⟨b29,0,none⟩) 1 [0] (by decide) (fun h=>by cases h) (SlR.row (b:=b29) aa aa)) .free aa aa ?_))
 rintro _ _ ⟨x,rfl,rfl⟩
 have hX0:eX (ee bd ⟨3,1,48⟩ ⟨0,2,[0]⟩ [0]):=lK iH ⟨⟨by decide,by decide⟩,⟨by decide,by decide⟩⟩ (by decide) (fun v h=>by rw[List.mem_singleton.1 h];decide) (fun v h=>by rw[List.mem_singleton.1 h];decide)
 refine kPa aa aa (ad (am [5,0] rfl (ac (ac (ab (kPm aa aa (kPv (du runUnderlying147 aa aa aa) aa (ad (bH aa (rfl) (aq (ac ?_)))))))))))
 refine ab (kPm aa aa (aR [0,4] ?_))
 refine aT aa (au call166 aa) (pi B _ x (ee bd ⟨3,1,48⟩ ⟨0,2,[0]⟩ [0]) hX0 s2 hu2) .free aa aa ?_ ?_
 rotate_left
 ·rintro _ _ ⟨s9,hm9,_⟩
  exact(jv e8 hm9).elim
 rintro _ _ ⟨r1,s3,hm1,rfl,rfl⟩
 have e9:=bX e8 hm1
 simp only[Bool.and_eq_true,Bool.not_eq_true'] at e9
 obtain⟨e10,e11⟩:=e9
 obtain⟨hX1,hu3,_,hbd1,_⟩:=qL hX0 hu2 hm1
 refine aN (H':=eQ x r1.2::aB r1.2.bd s3::_) (fun w hh=>by rw[hbd1];exact hh) (kPm aa aa ?_)
 refine aT aa (au call166 aa) (pi B _ x r1.2 hX1 s3 hu3) .free aa aa ?_ ?_
 rotate_left
 ·rintro _ _ ⟨s9,hm9,_⟩
  exact(jv e11 hm9).elim
 rintro _ _ ⟨r2,s4,hm2,rfl,rfl⟩
 have e12:=bX e11 hm2
 simp only[Bool.and_eq_true] at e12
 obtain⟨hX2,hu4,_⟩:=qL hX1 hu3 hm2
 have hbl:r2.2.block=⟨1,0,[0]⟩:=congrArg Prod.fst (dX e12.2)
 rw[e10,e12.1]
 refine kPa aa aa (kPa aa aa (ad (ac (ab (kPm aa aa (kPv (bj aa) aa (kPm aa aa (ak aa (aj aa) (.on aa aa (ae aa)) aa aa (kPv (aw aa aa aa) aa (kPm aa aa (ak aa (aj aa) (.on aa aa (ae aa)) aa aa ?_)))))))))))
 refine aJ aa (au call167 aa) (mH B _ x r2.2 hX2) (.on aa aa (ae aa)) aa aa ?_
 rintro _ _ ⟨bv5,hbv5,rfl,rfl⟩
 rw[hbl]
 refine ak aa (gY runUnderlying151 (t:=3) (off:=1) aa isAgg3 aa aa) (.on aa aa (ae aa)) aa aa (ak aa (al aa aa aa) (.on aa aa (ae aa)) aa aa (kPv (aw aa aa aa) aa (kPm aa aa (ak aa (aj aa) (.on aa aa (ae aa)) aa aa (aR [1] (aJ aa (au call167 aa) (mH B _ x r2.2 hX2) (.on aa aa (ae aa)) aa aa ?_))))))
 rintro _ _ ⟨bv6,hbv6,rfl,rfl⟩
 rw[hbl]
 refine ak aa (gY runUnderlying151 (t:=3) (off:=0) aa isAgg3 aa aa) (.on aa aa (ae aa)) aa aa (ak aa (al aa aa aa) (.on aa aa (ae aa)) aa aa (kPv (aw aa aa aa) aa (kPa aa aa (ad (am [0] rfl (ay ?_))))))
 exact ar results113 aa (fun w hh=>⟨rfl,(hh.dp [0,0,0,0,0,0,0,0,0])⟩)
theorem vc(B:World)(Fr:List HP):
 ∀ w,Holds B Fr w→Calls Tryz.prog 70 [].toArray w (a8 B Fr (.bool true)):=by
 refine ao func70 aa ntmps70 aa (ac (ab (kPa aa aa (ad (ac (ac (ab (ax aa (au call113 aa) (vd _ _) .free aa aa ?_))))))))
 refine kPv (bj aa) aa (ad (bH aa (rfl) (aq (ac (ab (kPv (aP aa (jh _ aa)) aa (kPv (aP aa (gZ _ aa)) aa (kPv (aP aa (gZ _ aa)) aa (kPb (wz pg (v:=(0,1)) (u:=(0,2)) runUnderlying190 sizeOf189 zeroValue189 ⟨⟨by decide,by decide⟩,rfl⟩ rfl aa aa aa) aa fun b16=>(aJ aa (au call114 aa) (kF _ _ 0 0 40 ⟨by decide,by decide,by decide⟩ ⟨3,1,48⟩ sO [(0,1),(0,2)] (hh2) (by decide) (some ⟨b16,0,none⟩) _ CK none 0 [] SlR.nil (fun _ h=>(by cases h)) (by decide) (fun _ h=>absurd h (Nat.not_lt_zero _)) 0 (by decide)) .free aa aa ?_))))))))))
 rintro _ _ ⟨bd,pa,N,s0,sF,out,hfm,hN,⟨hus0,hf⟩,hfill,hor⟩
 obtain rfl:=n48 hN
 have hev:=bX (bX (zC pa bd) hf) hfill
 simp only[Bool.and_eq_true,beq_iff_eq] at hev
 obtain⟨⟨rfl,e1⟩,e2⟩:=hev
 rw[dX e1] at hor
 rcases hor with ⟨n1,n2,s1,s2,ov,sv,hl1,hl2,hu2,hlm2,hn2,hov,hsv,rfl,rfl⟩ | ⟨s1,hl1,_⟩
 rotate_left
 ·have e3:=bX e2 hl1
  simp only[Bool.and_eq_true,beq_iff_eq] at e3
  exact absurd e3.1 (by simp)
 have e3:=bX e2 hl1
 simp only[Bool.and_eq_true,beq_iff_eq] at e3
 obtain⟨e4,e5⟩:=e3
 obtain rfl:n1=0:=by injection e4
 have e6:=bX e5 hl2
 simp only[Bool.and_eq_true,beq_iff_eq] at e6
 obtain⟨⟨e7,e14⟩,e8⟩:=e6
 rw[dX e7]
 refine aR [2] (cB fun qo co hqo hqi=> ?_)
 subst hqo
 obtain⟨bO,oO,rfl⟩:=hqi 0 (by decide)
 refine kPm aa aa (kPv (aA aa aa) aa (kPv (aA aa aa) aa (kPv (aA aa aa) aa (kPv (aA aa aa) aa (kPb (aD zeroValue134 aa) aa fun b2=>(kPb (aD zeroValue151 aa) aa fun b3=>(kPa aa aa (kPs (az (vs:=_) sizeOf134 aa aa aa aa aa) aa ?_))))))))
 refine kPs (az (vs:=_) sizeOf151 aa aa aa (by first | rfl | exact et (by assumption)) rfl) rfl ?_;refine kPa aa aa ?_;refine ad ?_;refine am [4,1,3,2,0] rfl ?_;refine ac ?_;refine ac ?_;refine ab ?_;refine kPm aa aa ?_;refine kPv (du runUnderlying90 aa aa aa) aa ?_;refine kPm aa aa ?_;refine ak aa (aj aa) (.on aa aa (ae aa)) aa aa ?_
 refine ak aa (bD aa runUnderlying166 ⟨_,rfl⟩ rfl) (.on aa aa (ae aa)) aa aa (ak aa (al aa aa aa) (.on aa aa (ae aa)) aa aa (kPv (aG aa aa aa) aa (kPm aa aa (ak aa (aE (m:=_) dz aa aa) (.on aa aa (ae aa)) aa aa (ak aa (ai isAgg3 aa aa) (.on aa aa (ae aa)) aa aa (ak aa (al aa aa aa) (.on aa aa (ae aa)) aa aa (kPv (aG aa aa aa) aa (ad (am [33,4,1,2,0] rfl (bH aa (rfl) (aq ?_)))))))))))
 refine ac (ab (kPm aa aa (kPv (ah isAgg134 sizeOf134 aa aa) aa ?_)))
 refine aR [4] (aJ aa (au call115 aa) (qP _ _ bd s2 ⟨3,1,48⟩ iH) .free aa aa ?_)
 rintro _ _ ⟨bs,rfl,rfl⟩
 refine kPa aa aa (ad (ac (ac (ab (kG fun bl o1 o2=>(kPm aa aa (kPv (du runUnderlying146 aa aa aa) aa (kPm aa aa (ak aa (aj aa) (.on aa aa (ae aa)) aa aa (ak aa (aK aa) (.on aa aa (ae aa)) aa aa (ak aa (aE (m:=_) il aa aa) (.on aa aa (ae aa)) aa aa ?_)))))))))))
 refine ak aa (ai isAgg168 aa aa) (.on aa aa (ae aa)) aa aa (ak aa (du runUnderlying168 aa aa aa) (.on aa aa (ae aa)) aa aa (kPv (aG aa aa aa) aa (ad (am [45,5,4,1,2,0] rfl (bH aa (rfl) (aq (ac (aN (fun w hh=>dN (S:=(⟨bU bd ⟨3,1,48⟩ s2,0,0,[],[]⟩:bA)) hh) (aN (H':=fu bs (⟨bU bd ⟨3,1,48⟩ s2,0,0,[],[]⟩:bA)::aB bd s2::row b2 [i64 3,i64 1,i64 48] 134::dC 3 i64 0 (.slice (some ⟨bO,oO,none⟩) 2 co,[40,42])::cS 0 (sv,[0])::Fr) (fun w hh=>by have h:=(hh.dp [2,5]);exact h) (cN [0,1,2,3,4,5,6,7,8,9,10,11,12,13] [7,8] [0,1,2] [7] [row b2 [i64 3,i64 1,i64 48] 134,dC 3 i64 0 (.slice (some ⟨bO,oO,none⟩) 2 co,[40,42])] Tryz.mixed (by kernel_rfl) ?_))))))))))
 refine an aa aa aa (aj aa) .free aa (an aa aa aa (ah isAgg134 sizeOf134 aa aa) .free aa ?_)
 refine an aa aa aa (aj aa) .free aa (aU aa aa aa (aj aa) .free aa (aU aa aa aa (cq runUnderlying166 sizeOf3 aa aa (by decide) (by decide)) .free aa (aU aa aa aa (bP (v:=i64 42) isAgg3 (cM 3 aa) aa aa) .free aa (aU aa aa aa (cX (c:=42) runUnderlying3 runUnderlying25 aa (by decide)) .free aa (aS aa aa (kPb (fW runUnderlying30 sizeOf25 zeroValue25 aa aa aa) aa fun b54=>(ad (cO (aS aa aa (aR [1,1] ?_))))))))))
 refine aT aa (au call116 aa) (tB B _ bs bd (⟨bU bd ⟨3,1,48⟩ s2,0,0,[],[]⟩:bA) ⟨3,1,48⟩ iH s2 hu2 ⟨iy iH,by rw[hn2];decide,rfl,rfl⟩ (some ⟨b54,0,none⟩) 1 [42] (by decide) (fun v h=>by rw[List.mem_singleton.1 h];decide) (SlR.row (b:=b54) aa aa)) .free aa aa ?_ ?_
 rotate_left
 ·rintro _ _ ⟨s9,hm9,_⟩
  exact(jv e8 hm9).elim
 rintro _ _ ⟨r,s3,hm3,hor⟩
 have e9:=bX e8 hm3
 simp only[Bool.and_eq_true,beq_iff_eq] at e9
 obtain⟨⟨e10,e11⟩,e12⟩:=e9
 rcases hor with ⟨h1,_⟩ | ⟨x,X,hX,h0,rfl,rfl⟩
 ·rw[h1] at e11;cases e11
 rw[hX] at e11
 have e13:(bJ X.went 42).getD 0=88:=by simpa [Bp] using e11
 have hu3:=(xy iH (fun v h=>by rw[List.mem_singleton.1 h];decide) (iy iH) hu2 (by rw[hn2];decide) e14 hm3).1
 refine ad (c6 aa (aU aa aa aa (aj aa) .free aa (aU aa aa aa (aA aa aa) .free aa (aU aa aa aa (aA aa aa) .free aa (aU aa aa aa (bC aa) .free aa (aU aa aa aa (bC aa) .free aa (cF (am [7,6,4,1,2,0] rfl (ac (ab (kPm aa aa ?_)))))))))))
 refine kPv (ah isAgg134 sizeOf134 aa aa) aa ?_
 refine aR [2] (aJ aa (au call117 aa) (fO _ _ _ _ ⟨3,1,48⟩ iH hu3) .free aa aa ?_)
 rintro _ _ ⟨sv3,hsv3,rfl,rfl⟩
 rw[dX e12]
 refine kPm aa aa (kPv (aA aa aa) aa (kPv (aA aa aa) aa (kPb (aD zeroValue151 aa) aa fun b8=> ?_)))
 refine kPs (az (vs:=_) sizeOf151 aa aa aa (by first | rfl | exact et (by assumption)) rfl) rfl ?_;refine kPa aa aa ?_;refine ad ?_;refine am [9,8,7,6,4,2,0] rfl ?_;refine ac ?_;refine cK Tryz.mixed (by kernel_rfl) (by kernel_rfl) ?_;refine kQm aa aa ?_;refine kQv (al aa aa aa) aa ?_
 refine kQm aa aa (bg aa (aj aa) (.on aa aa (ae aa)) aa (bg aa (du runUnderlying147 aa aa aa) (.on aa aa (ae aa)) aa (kQv (aw aa aa aa) aa (kQm aa aa (bg aa (aj aa) (.on aa aa (ae aa)) aa (bg aa (al aa aa aa) (.on aa aa (ae aa)) aa (kQv (aw aa aa aa) aa (kQm aa aa (bg aa (aE (m:=_) im aa aa) (.on aa aa (ae aa)) aa (bg aa (ai isAgg3 aa aa) (.on aa aa (ae aa)) aa (bg aa (al aa aa aa) (.on aa aa (ae aa)) aa ?_)))))))))))
 refine kQv (aw aa aa aa) aa (kQm aa aa (bg aa (aE (m:=_) dz aa aa) (.on aa aa (ae aa)) aa (bg aa (ai isAgg3 aa aa) (.on aa aa (ae aa)) aa (bg aa (al aa aa aa) (.on aa aa (ae aa)) aa (kQv (aw aa aa aa) aa (kQm aa aa (bg aa (aj aa) (.on aa aa (ae aa)) aa (bg aa (aj aa) (.on aa aa (ae aa)) aa (bg aa (cq runUnderlying166 sizeOf3 aa aa (by decide) (by decide)) (.on aa aa (ae aa)) aa (bg aa (bP (v:=i64 42) isAgg3 (cM 7 aa) aa aa) (.on aa aa (ae aa)) aa (bg aa (cX (c:=42) runUnderlying3 runUnderlying25 aa (by decide)) (.on aa aa (ae aa)) aa ?_)))))))))))
 refine bF aa (au call118 aa) (bG (q:=eQ) (fun Fr=>tK B Fr x X 42)) (.on aa aa (ae aa)) aa ?_
 refine bg aa (ah isAgg134 sizeOf134 aa aa) (.on aa aa (ae aa)) aa ?_
 refine bF aa (au call119 aa) (jC _ _ ⟨3,1,48⟩ iH 1 (by decide) (by decide)) (.on aa aa (ae aa)) aa ?_
 refine bg aa (al aa aa aa) (.on aa aa (ae aa)) aa (kQv (aw aa aa aa) aa (kQa aa aa (bZ (am [0] rfl (ay ?_)))))
 exact ar results70 aa (fun w hh=>⟨by rw[e13];rfl,(hh.dp [0,0,0,0,0,0,0,0,0])⟩)
theorem Tryz.ownKnobs:ownKnob Tryz.prog.godebug=none:=by kernel_rfl
theorem Tryz.laidOut:laidOutB Tryz.prog=true:=by kernel_rfl
theorem B8{P:Program}{f:FuncId}{vs:Array Value}{W:World}(h:∀ w,Holds W [old W] w→Calls P f vs w (a8 W [old W] (.bool true))):
 Calls P f vs W (fun e w'=>e= .returned (.bool true)∧RowKit.Below W.heap.size W w'):=(h W (qe W)).mono fun _ _ ⟨h1,h2⟩=>⟨h1,h2.oldb⟩
theorem t8{B:World}{sv:Value}{xs:List Int}{Fr:List HP}{w:World}(h:Holds B (iw 0 (sv,xs)::Fr) w):Holds B (dC 3 i64 0 (sv,xs)::Fr) w:=by
 rcases jA h with ⟨rfl,rfl,h2⟩ | ⟨bd,rest,rfl,h2⟩
 ·exact eI h2
 ·exact gV aa aa h2
theorem va(B:World)(Fr:List HP):
 ∀ w,Holds B Fr w→Calls Tryz.prog 43 [].toArray w (a8 B Fr (.bool true)):=by
 refine ao func43 aa ntmps43 aa (ac (ab (kPa aa aa (ad (ac (ac (ab (ax aa (au call70 aa) (vc _ _) .free aa aa ?_))))))))
 refine kPv (bj aa) aa (ad (bH aa (rfl) (aq (ac (ab (aJ aa (au call71 aa) (vX _ _) .free aa aa ?_))))))
 rintro _ _ ⟨tb,rfl,rfl⟩
 refine kPa aa aa (ad (ac (ab (kPm aa aa (kPv (du runUnderlying130 aa aa aa) aa (kPm aa aa (ak aa (aj aa) (.on aa aa (ae aa)) aa aa (dO aa (au call72 aa) (j9 _ _ _ _ _ ⟨by decide,by decide⟩) (.on aa aa (ae aa)) aa aa ?_))))))))
 refine ak aa (al aa aa aa) (.on aa aa (ae aa)) aa aa (kPv (aw aa aa aa) aa (kPm aa aa (ak aa (aj aa) (.on aa aa (ae aa)) aa aa (dO aa (au call72 aa) (j9 _ _ _ _ _ ⟨by decide,by decide⟩) (.on aa aa (ae aa)) aa aa ?_))))
 refine ak aa (al aa aa aa) (.on aa aa (ae aa)) aa aa (kPv (aw aa aa aa) aa (kPm aa aa (ak aa (aj aa) (.on aa aa (ae aa)) aa aa (dO aa (au call72 aa) (j9 _ _ _ _ _ ⟨by decide,by decide⟩) (.on aa aa (ae aa)) aa aa ?_))))
 refine ak aa (al aa aa aa) (.on aa aa (ae aa)) aa aa (kPv (aw aa aa aa) aa (kPm aa aa (ak aa (aj aa) (.on aa aa (ae aa)) aa aa (dO aa (au call72 aa) (j9 _ _ _ _ _ ⟨by decide,by decide⟩) (.on aa aa (ae aa)) aa aa ?_))))
 refine ak aa (al aa aa aa) (.on aa aa (ae aa)) aa aa (kPv (aw aa aa aa) aa (kPa aa aa (ad (am [0] rfl (ay ?_)))))
 exact ar results43 aa (fun w hh=>⟨rfl,(hh.dp [0])⟩)
structure HpS where
 bd:Nat
 c:Cfg
 S:bA
 o:Bool
 T:gC
 X:Option bE
def nl:Bool→Nat→bA→HP
 | true=>iP
 | false=>fu
def xS(x:Nat):Option bE→HP
 | none=>pr True
 | some X=>eQ x X
def Dt(x:Nat):Option bE→Value
 | none=> .pointer none
 | some _=>ptr x
abbrev cE(bh bs bt x:Nat)(h:HpS):HP:=row bh [ptr h.bd,i64 h.c.log,i64 h.c.roots,i64 h.c.space,ptr bs,ptr bt,Dt x h.X] 149
def dB(bh:Nat)(h:HpS):HP:=hex fun (x:Nat×Nat×Nat)=>grp [cE bh x.1 x.2.1 x.2.2 h,nl h.o x.1 h.S,fZ x.2.1 h.T,xS x.2.2 h.X]
section
variable {B:World} {n:Nat} {D:List Deferred} {σ:Env} {Fr:List HP} {K:Act→World→Prop} {bh bs bt x:Nat} {h:HpS} {w:World}
theorem iM(g:∀ bs bt x,GO B n D σ (cE bh bs bt x h::nl h.o bs h.S::fZ bt h.T::xS x h.X::Fr) K):GO B n D σ (dB bh h::Fr) K:=fun a w st=>by
 obtain⟨x,hx⟩:=st.holds.hex
 exact g x.1 x.2.1 x.2.2 a w ⟨st.toStA,hx.grp⟩
theorem dZ(hh:Holds B (cE bh bs bt x h::nl h.o bs h.S::fZ bt h.T::xS x h.X::Fr) w):Holds B (dB bh h::Fr) w:=
 Holds.unhex (bs,bt,x) (Holds.ungrp (l:=[cE bh bs bt x h,nl h.o bs h.S,fZ bt h.T,xS x h.X]) hh)
end
structure dY(h:HpS)(s:Dev):Prop where
 c:bx h.c
 k:z7 h.S h.bd h.c s
 sw:h.o=true→lr h.S∧h.S.dirty.length≤1000000
 u:U64 s
 t1:0≤h.T.last∧h.T.last≤1000000000
 tl:h.T.at_.length≤800000
 tp:∀ p∈h.T.at_,0≤p.2∧p.2≤1000000
 x:∀ X,h.X=some X→eX X∧X.bd=h.bd∧X.c=h.c∧0<X.b.rts.length
abbrev HpS.blk(h:HpS)(s:Dev):Blk:=(s.block h.c).1
def HpS.obj(h:HpS)(s:Dev)(n:Int):da×Int:=if (bJ h.T.at_ n).isSome=true then s.objOf h.c (h.blk s) ((bJ h.T.at_ n).getD 0) else ((0,0,0),6)
def HpS.words(h:HpS):List Int:=(ce (h.T.at_.map Prod.fst)).map fun n=>(bJ h.T.at_ n).getD 0
theorem gy(B:World)(Fr:List HP)(bh bs bt x:Nat)(h:HpS)(s:Dev)(hc:bx h.c)(hu:U64 s):
 ∀ w,Holds B (cE bh bs bt x h::aB h.bd s::Fr) w→Calls Tryz.prog 81 [ptr bh].toArray w (Ret B (fun rv H'=>∃ sv,aM sv=true∧rv=lp (h.blk s) sv∧H'=cS 0 (sv,(h.blk s).rts)::cE bh bs bt x h::aB h.bd s::Fr) (fun _ _=>False)):=by
 refine ao func81 aa ntmps81 aa (ac (ab (kPb (aD zeroValue151 aa) aa fun b2=>(ad (ac ?_)))))
 refine kI (.br [0,1,2,3,4,5,6,7] 8 (.fin [9,10,11,12,13,14]) 12 (.fin [8,9,10,11,13,14])) [8,12,13] [0,1,2,3,4,5,6,7,9,10,11] [12,13] [cE bh bs bt x h] [] (G:=Nat×Value) (fun (b3,sv)=>[(3,ptr b3),(2,ptr b2)]) (fun (b3,sv)=>row b3 [i64 (h.blk s).act,i64 (h.blk s).used,sv] 151::cS 0 (sv,(h.blk s).rts)::cE bh bs bt x h::aB h.bd s::row b2 [i64 0,i64 0,.slice none 0 0] 151::Fr) Tryz.mixed (by kernel_rfl) ?_ ?_
 ·skip
  refine wJ (an aa aa aa (aj aa) .free aa (an aa aa aa (aK aa) .free aa (an aa aa aa (aE (m:=_) io aa aa) .free aa (an aa aa aa (ai isAgg90 aa aa) .free aa (an aa aa aa (aj aa) .free aa (an aa aa aa (aK aa) .free aa (an aa aa aa (aE (m:=_) dV aa aa) .free aa (an aa aa aa (ah isAgg134 sizeOf134 aa aa) .free aa ?_))))))))
  refine cF ?_
  refine pP aa aa ?_ ?_
  ·skip
   refine aR [2] (aJ aa (au call117 aa) (fO _ _ _ _ h.c hc hu) .free aa aa ?_)
   rintro _ _ ⟨sv14,hsv14,rfl,rfl⟩
   refine ad (rV aa (jL (an aa aa aa (aj aa) .free aa (an aa aa aa (aA aa aa) .free aa (an aa aa aa (aA aa aa) .free aa (aS aa aa (kPb (aD zeroValue151 aa) aa fun b3=>(ad (cO (aS aa aa ?_))))))))))
   refine kPs (az (vs:=_) sizeOf151 aa aa aa (by first | rfl | exact et (by assumption)) rfl) rfl ?_
   refine ad (cO (aU aa aa aa (bC aa) .free aa (cF ?_)))
   exact fun a w st_=>⟨(b3,sv14),st_.to ⟨rfl,rfl,trivial⟩ (fun hh=>(hh.pk [0,0,2]))⟩
  ·skip
   refine kPb (aD zeroValue151 aa) aa fun b3=>(ad (ug (jL (aS aa aa (aR [3] (aJ aa (au call117 aa) (fO _ _ _ _ h.c hc hu) .free aa aa ?_))))))
   rintro _ _ ⟨sv14,hsv14,rfl,rfl⟩
   refine ad (c6 aa (an aa aa aa (aj aa) .free aa (an aa aa aa (aA aa aa) .free aa (an aa aa aa (aA aa aa) .free aa (aS aa aa ?_)))))
   refine kPs (az (vs:=_) sizeOf151 aa aa aa (by first | rfl | exact et (by assumption)) rfl) rfl ?_;refine ad ?_;refine cO ?_;refine aU aa aa aa (bC aa) .free aa ?_;refine cF ?_
   exact fun a w st_=>⟨(b3,sv14),st_.to ⟨rfl,rfl,trivial⟩ (fun hh=>(hh.pk [2,0,2]))⟩
 rintro⟨b3,sv⟩
 refine cg (σ':=[(3,ptr b3),(2,ptr b2)]) ⟨rfl,rfl,trivial⟩ (ac (aR [1] (cB fun qv cv hqv hqi=> ?_)))
 subst hqv
 refine ab (kPv (ah isAgg151 sizeOf151 aa aa) aa ?_)
 refine kPs (az (vs:=_) sizeOf151 aa aa aa (by first | rfl | exact et (by assumption)) rfl) rfl ?_;refine ad ?_;refine ay ?_
 exact pT results81 (.cellA aa isAgg151 sizeOf151 aa aa) (fun w hw=>⟨_,⟨.slice qv (h.blk s).rts.length cv,rfl,rfl,rfl⟩,(hw.dp [1,3])⟩)
theorem sP{α:Type}{k:Int}{v:α}:∀ {l:List (Int×α)},bJ l k=some v→(k,v)∈l
 | [],h=>by cases h
 | q::l,h=>by
   unfold bJ at h
   split at h
   ·rename_i e;cases h;rw[←e];exact List.mem_cons_self ..
   ·exact List.mem_cons_of_mem _ (sP h)
theorem dY.pb{h:HpS}{s:Dev}(hW:dY h s)(n:Int):0≤(bJ h.T.at_ n).getD 0∧(bJ h.T.at_ n).getD 0≤1000000:=by
 cases hm:bJ h.T.at_ n with
 | none=>simp
 | some v=>exact hW.tp _ (sP hm)
theorem uM(B:World)(Fr:List HP)(bh bs bt x:Nat)(h:HpS)(s:Dev)(hW:dY h s)(n:Int):
 ∀ w,Holds B (cE bh bs bt x h::fZ bt h.T::aB h.bd s::Fr) w→Calls Tryz.prog 87 [ptr bh,i64 n].toArray w (a8 B (cE bh bs bt x h::fZ bt h.T::aB h.bd s::Fr) (.tuple #[gQ (h.obj s n).1,i64 (h.obj s n).2])):=by
 refine ao func87 aa ntmps87 aa ?_
 have hc:=hW.c
 have hu:=hW.u
 have hbk:=dA (s:=s) hc hu
 have hbl:(h.blk s).rts.length≤16:=fG (s:=s) hc
 refine ac (ab (kPb (aD zeroValue160 aa) aa fun b4=>(kPa aa aa (ad (ac (ab (kPf jc isAgg130 aa aa aa aa (kPm aa aa (ax aa (au call146 aa) (bG (q:=fZ) (fun Fr=>qd _ Fr bt h.T n)) .free aa aa ?_)))))))))
 refine kPm aa aa (kPv (aA aa aa) aa (kPv (aA aa aa) aa (kPa aa aa (kPa aa aa (ad (am [7,6,5,4,0] rfl (ac (ac (ab (kPm aa aa (kPv (bj aa) aa ?_)))))))))))
 refine ad ?_
 refine aZ aa (fun h18=> ?_) (fun h18=> ?_)
 ·have hk:¬ (bJ h.T.at_ n).isSome=true:=by simpa using h18
  have hres:h.obj s n=((0,0,0),6):=by unfold HpS.obj;rw[if_neg hk]
  refine ac (ab (kPv (aP aa (rG)) aa (kPs (az (vs:=_) sizeOf160 aa aa aa aa aa) aa (kPa aa aa (ad (ay ?_))))))
  exact ge results87 (.cellA aa isAgg160 sizeOf160 aa aa) (.tmp aa) (fun w hw=>⟨by rw[hres];rfl,(hw.dp [0])⟩)
 ·have hk:(bJ h.T.at_ n).isSome=true:=by simpa using h18
  have hres:h.obj s n=s.objOf h.c (h.blk s) ((bJ h.T.at_ n).getD 0):=by unfold HpS.obj;rw[if_pos hk]
  refine aq (ac (cN [0,1,2,3,4,5,6,7,8,10,9,11,12,13,14,15] [9,11,14] [0,1,2,3,4,5,6,7,10] [9] [cE bh bs bt x h] Tryz.mixed (by kernel_rfl) ?_))
  refine an aa aa aa (aj aa) .free aa (an aa aa aa (aK aa) .free aa (an aa aa aa (aE (m:=_) io aa aa) .free aa (an aa aa aa (ai isAgg90 aa aa) .free aa (an aa aa aa (aj aa) .free aa (an aa aa aa (aK aa) .free aa (an aa aa aa (aE (m:=_) dV aa aa) .free aa (an aa aa aa (ah isAgg134 sizeOf134 aa aa) .free aa ?_)))))))
  refine aU aa aa aa (aj aa) .free aa (an aa aa aa (aj aa) .free aa (aS aa aa (aR [1,2] (aJ aa (au call81 aa) (gy B _ bh bs bt x h s hc hu) .free aa aa ?_))))
  rintro _ _ ⟨sv,hsv,rfl,rfl⟩
  refine ad (cO (aS aa aa (ax aa (au call147 aa) (bG (q:=aB) (fun Fr=>jZ _ Fr _ _ h.c hc (h.blk s) sv hbk hsv _ (by have:=hW.pb n;omega))) .free aa aa ?_)))
  refine ad (c6 aa (aU aa aa aa (aA aa aa) .free aa (aU aa aa aa (aA aa aa) .free aa (aS aa aa (kPs (az (vs:=_) sizeOf160 aa aa aa aa aa) aa (ad (c6 aa (aU aa aa aa (bC aa) .free aa (cF (am [5,4] rfl (ay ?_)))))))))))
  exact ge results87 (.cellA aa isAgg160 sizeOf160 aa aa) (.tmp aa) (fun w hw=>⟨by rw[hres];rfl,((hw.dp [0,2]).pk [0,1])⟩)
theorem p8(B:World)(Fr:List HP)(bh bs bt x:Nat)(h:HpS)(s:Dev)(hW:dY h s):
 ∀ w,Holds B (cE bh bs bt x h::fZ bt h.T::Fr) w→Calls Tryz.prog 134 [ptr bh].toArray w (Ret B (fun rv H'=>aM rv=true∧H'=cS 0 (rv,h.words)::cE bh bs bt x h::fZ bt h.T::Fr) (fun _ _=>False)):=by
 refine ao func134 aa ntmps134 aa ?_
 have hkl:(ce (h.T.at_.map Prod.fst)).length≤800000:=by have:=hW.tl;rw[ce,List.length_mergeSort,List.length_map];exact this
 refine ac (ab (kPa aa aa (ad (ac (ab (kPa aa aa (ad (ac (ac (aN (fun w hh=>eI (T:=25) (enc:=w64) hh) (ab ?_)))))))))))
 refine kPf jc isAgg130 aa aa aa aa (aR [2] (aJ aa (au call92 aa) (m6 B _ bt h.T (by have:=hW.tl;omega)) .free aa aa ?_))
 rintro rv _ rfl
 refine aN (fun w hh=>t8 hh) (cB fun qn cn hqn hqi=> ?_)
 subst hqn
 refine kPv (bD aa runUnderlying166 ⟨_,rfl⟩ rfl) aa (kPm aa aa (ad (aF (cC (ι:=Nat×Value×List Int) [13,12,2,0] (fun (k,sv,ws)=>(k≤(ce (h.T.at_.map Prod.fst)).length)∧(aM sv=true)∧(ws=((ce (h.T.at_.map Prod.fst)).take k).map (fun n=>(bJ h.T.at_ n).getD 0))∧(ws.length=k)) (fun (k,sv,ws)=>[(14,i64 k),(3,sv)]) (fun (k,sv,ws)=>dC 25 w64 0 (sv,ws)::dC 3 i64 0 (.slice qn (ce (h.T.at_.map Prod.fst)).length cn,(ce (h.T.at_.map Prod.fst)))::fZ bt h.T::cE bh bs bt x h::Fr) (fun (k,sv,ws)=>(ce (h.T.at_.map Prod.fst)).length - k) (0,.slice none 0 0,[]) (⟨Nat.zero_le _,rfl,rfl,rfl⟩) (fun a w st=>st.to ⟨rfl,rfl,trivial⟩ (fun hh=>(hh.pk [2]))) ?_))))
 rintro⟨k,sv,ws⟩ ⟨hk0,hsv,hws,hwl⟩
 try simp only at hk0 hsv hws hwl ⊢
 refine cg (σ':=[(14,i64 k),(3,sv),(13,_),(12,_),(2,_),(0,_)]) (aC aa) (ac (ab (kPv (al aa aa aa) aa (ad (ac ?_)))))
 refine aZ aa (fun h15=> ?_) (fun h15=> ?_)
 ·have hk:k<(ce (h.T.at_.map Prod.fst)).length:=by simpa using h15
  obtain⟨bN,oN,rfl⟩:=hqi k hk
  have hpb:=hW.pb (ce (h.T.at_.map Prod.fst))[k]
  refine aq (ac (aF (ac (ab (kPv (cq runUnderlying166 sizeOf3 aa aa (by omega) (by omega)) aa ?_)))))
  refine kPv (bP (v:=i64 (ce (h.T.at_.map Prod.fst))[k]) isAgg3 (cM 1 aa) aa (by rw[Int.toNat_natCast,List.getElem?_map,List.getElem?_eq_getElem hk];rfl)) aa ?_
  refine kPa aa aa (ad (ac (ab (kPf jc isAgg130 aa aa aa aa (kPm aa aa (ax aa (au call146 aa) (bG (q:=fZ) (fun Fr=>qd _ Fr bt h.T (ce (h.T.at_.map Prod.fst))[k])) .free aa aa ?_))))))
  refine kPm aa aa (kPv (aA aa aa) aa (kPv (aA aa aa) aa (kPa aa aa (kPa aa aa (ad (am [6,14,3,13,12,2,0] rfl (ab (kPm aa aa (kPm aa aa (kPv (cX runUnderlying3 runUnderlying25 aa (dT (by omega))) aa (kPb (fW runUnderlying30 sizeOf25 zeroValue25 aa aa aa) aa fun b30=> ?_)))))))))))
  refine aR [1,0] (cJ aa (ea aa aa runUnderlying30 runUnderlying30 ⟨_,rfl⟩ sizeOf25 zeroValue25 aa (fun _=>rfl) hG aa aa (by omega)) .free aa aa ?_)
  rintro sv9 _ ⟨hsv9,rfl⟩
  refine kPa aa aa (ad (ab (kPv (aL aa aa) aa (kPm aa aa (ad (am [14,3,13,12,2,0] rfl ?_))))))
  exact fun a w st_=>⟨(k+1,sv9,ws++[(bJ h.T.at_ (ce (h.T.at_.map Prod.fst))[k]).getD 0]),⟨by omega,hsv9,by rw[List.take_succ_eq_append_getElem hk,List.map_append, ←hws];rfl,by simp[hwl]⟩,by omega,st_.to (aC aa) (fun hh=>hh)⟩
 ·have h9:¬ k<(ce (h.T.at_.map Prod.fst)).length:=by simpa using h15
  have hk:k=(ce (h.T.at_.map Prod.fst)).length:=by omega
  have hres:ws=h.words:=by rw[hws,hk,List.take_length];rfl
  refine bB (ac (ab (kPm aa aa (kPa aa aa (ad (am [2] rfl (ay ?_)))))))
  exact ar results134 aa (fun w hw=>⟨_,⟨hsv,rfl⟩,by rw[←hres];exact((hw.dp [1]).pk [0,1])⟩)
theorem AH(B:World)(Fr:List HP)(bh bs bt x:Nat)(h:HpS)(s:Dev)(hW:dY h s):
 ∀ w,Holds B (cE bh bs bt x h::fZ bt h.T::aB h.bd s::Fr) w→Calls Tryz.prog 91 [ptr bh].toArray w (Ret B (fun rv H'=>aM rv=true∧H'=cS 0 (rv,h.words++(h.blk s).rts)::cE bh bs bt x h::fZ bt h.T::aB h.bd s::Fr) (fun _ _=>False)):=by
 refine ao func91 aa ntmps91 aa ?_
 have hc:=hW.c
 have hu:=hW.u
 have hbk:=dA (s:=s) hc hu
 have hbl:(h.blk s).rts.length≤16:=fG (s:=s) hc
 have hwl:h.words.length≤800000:=by have:=hW.tl;simp[HpS.words,ce];exact this
 refine ac (ab (kPa aa aa (ad (ac (ab (kPm aa aa (aJ aa (au call134 aa) (p8 B _ bh bs bt x h s hW) .free aa aa ?_)))))))
 rintro wv _ ⟨hwv,rfl⟩
 refine kPm aa aa (aR [1,2] (aJ aa (au call81 aa) (gy B _ bh bs bt x h s hW.c hW.u) .free aa aa ?_))
 rintro _ _ ⟨sv,hsv,rfl,rfl⟩
 refine cB fun qb cb hqb hqbi=> ?_
 subst hqb
 refine kPv (gY runUnderlying151 (t:=30) (off:=2) aa isAgg30 aa aa) aa (aR [3] (cJ aa (dW (yv:=(.slice qb (h.blk s).rts.length cb)) (ys:=(h.blk s).rts) aa aa runUnderlying30 runUnderlying30 ⟨_,rfl⟩ sizeOf25 zeroValue25 aa (fun _=>rfl) hG aa aa (cM (1 - 1) aa) (by omega)) .free aa aa ?_))
 rintro nv _ ⟨hnv,rfl⟩
 refine kPa aa aa (ad (am [2] rfl (ay ?_)))
 exact ar results91 aa (fun w hw=>⟨_,⟨hnv,rfl⟩,((hw.dp [1]).pk [0,0,1])⟩)
section
variable {B:World} {Fr:List HP} {bh bs bt x:Nat} {h:HpS} {w:World}
theorem qh(ho:h.o=true)(hh:Holds B (cE bh bs bt x h::iP bs h.S::fZ bt h.T::xS x h.X::Fr) w):Holds B (dB bh h::Fr) w:=dZ (bs:=bs) (bt:=bt) (x:=x) (by rw[ho];exact hh)
theorem vY(ho:h.o=false)(hh:Holds B (cE bh bs bt x h::fu bs h.S::fZ bt h.T::xS x h.X::Fr) w):Holds B (dB bh h::Fr) w:=dZ (bs:=bs) (bt:=bt) (x:=x) (by rw[ho];exact hh)
end
theorem kA(B:World)(Fr:List HP)(bs:Nat)(S:bA)(o:Bool):∀ w,Holds B (nl o bs S::Fr) w→Calls Tryz.prog 80 [ptr bs].toArray w (a8 B (nl o bs S::Fr) (.bool o)):=by
 cases o
 ·exact mi B Fr bs S
 ·exact wQ B Fr bs S
theorem HpS.obj_w{h:HpS}{s:Dev}(hW:dY h s){n:Int}(e:(h.obj s n).2=0):ls (h.obj s n).1:=by
 unfold HpS.obj at e ⊢
 split at e
 ·rename_i hm
  rw[if_pos hm]
  exact gW hW.c (dA hW.c hW.u) e
 ·cases e
def HpS.commit(h:HpS)(s:Dev):Out (Int×HpS):=if h.o=true then (h.S.commit s).then fun S s=> .ok (0,{h with o:=false,S:=S}) s else .ok (2,h) s
def HpS.alloc(h:HpS)(s:Dev)(w r:Int):Out ((Int×Int)×HpS):=if h.o=true then (cL gc h.c w r s h.S).then fun x s=>if x.1.2≠0 then .ok ((0,x.1.2),{h with S:=x.2}) s else .ok (((h.T.take x.1.1).1,0),{h with S:=x.2,T:=(h.T.take x.1.1).2}) s else .ok ((0,2),h) s
def HpS.write(h:HpS)(s:Dev)(n i v:Int):Out (Int×HpS):=if h.o=true then (if (h.obj s n).2≠0 then .ok ((h.obj s n).2,h) s else (iJ gc (h.obj s n).1 i false v s h.S).then fun x s=> .ok (x.1,{h with S:=x.2}) s) else .ok (2,h) s
theorem uK(B:World)(Fr:List HP)(bh:Nat)(h:HpS)(s:Dev)(hW:dY h s):
 ∀ w,Holds B (dB bh h::aB h.bd s::Fr) w→Calls Tryz.prog 79 [ptr bh].toArray w (a8 B (dB bh h::aB h.bd s::Fr) (i64 (s.check h.c))):=by
 refine ao func79 aa ntmps79 aa (iM fun bs bt x=>(ac (ab (kPa aa aa (ad (ac (cK Tryz.mixed (by kernel_rfl) (by kernel_rfl) ?_)))))))
 refine kQm aa aa (kQv (aK aa) aa (kQv (aE (m:=_) io aa aa) aa (kQv (ai isAgg90 aa aa) aa (kQm aa aa (kQv (aK aa) aa (kQv (aE (m:=_) dV aa aa) aa (kQv (ah isAgg134 sizeOf134 aa aa) aa ?_)))))))
 refine bF aa (au call130 aa) (bG (q:=aB) (fun Fr=>kK _ Fr h.bd s h.c hW.c hW.u)) .free aa ?_
 refine kQa aa aa (bZ (am [2] rfl (ay ?_)))
 exact ar results79 aa (fun w hw=>⟨rfl,dZ (bs:=bs) (bt:=bt) (x:=x) hw⟩)
theorem dY.ok{h:HpS}{s:Dev}(hW:dY h s)(ho:h.o=true):U64 s∧s.n≤1000000∧lr h.S∧h.S.L.d=h.bd∧h.S.L.c=h.c:=⟨hW.u,hW.k.n,(hW.sw ho).1,hW.k.d,hW.k.c⟩
theorem xi(B:World)(Fr:List HP)(bh:Nat)(h:HpS)(s:Dev)(hW:dY h s)(n i v:Int)(hv:0≤v∧v<18446744073709551616):
 ∀ w,Holds B (dB bh h::aB h.bd s::Fr) w→Calls Tryz.prog 48 [ptr bh,i64 n,i64 i,w64 v].toArray w (Ret B (fun rv H'=>∃ a h' s',h.write s n i v= .ok (a,h') s'∧rv=i64 a∧H'=dB bh h'::aB h.bd s'::Fr) (fun ch H'=>∃ s',h.write s n i v= .off s'∧ch=dP∧H'=aB h.bd s'::Fr)):=by
 refine ao func48 aa ntmps48 aa (iM fun bs bt x=>(ac (ab (kPa aa aa (ad (ac (ac (ab (kPf dI isAgg146 aa aa aa aa (ax aa (au call80 aa) (bG (q:=nl h.o) (fun Fr=>kA B Fr bs h.S h.o)) .free aa aa ?_))))))))))
 refine kPv (bj aa) aa (ad ?_)
 refine aZ aa (fun h16=> ?_) (fun h16=> ?_)
 ·have ho:h.o=false:=by simpa using h16
  have hof:¬ h.o=true:=by rw[ho];decide
  refine ac (ab (kPa aa aa (ad (ay ?_))))
  exact ar results48 aa (fun w hw=>⟨_,⟨2,h,s,by unfold HpS.write;rw[if_neg hof],rfl,rfl⟩,dZ (bs:=bs) (bt:=bt) (x:=x) hw⟩)
 ·have ho:h.o=true:=by simpa using h16
  refine aR [1] (aN (H':=iP bs h.S::_) (fun w hh=>by rw[ho] at hh;exact hh) (aq (ac (ab (kPm aa aa (kPm aa aa (aR [1,1,2] (ax aa (au call87 aa) (uM B _ bh bs bt x h s hW n) .free aa aa ?_))))))))
  refine kPm aa aa (kPv (aA aa aa) aa (kPv (aA aa aa) aa (kPb (aD zeroValue160 aa) aa fun b9=>(kPs (az (vs:=_) sizeOf160 aa aa aa aa aa) aa (kPa aa aa (ad (am [10,9,8,0,2,3] rfl (ac (ac (ab (kPm aa aa ?_)))))))))))
  refine kPv (al aa aa aa) aa (ad ?_)
  refine aZ aa (fun h24=> ?_) (fun h24=> ?_)
  ·have hk:(h.obj s n).2≠0:=by simpa using h24
   refine ac (ab (kPm aa aa (kPa aa aa (ad (ay ?_)))))
   exact ar results48 aa (fun w hw=>⟨_,⟨(h.obj s n).2,h,s,by unfold HpS.write;rw[if_pos ho,if_pos hk],rfl,rfl⟩,qh (bs:=bs) (bt:=bt) (x:=x) ho ((hw.dp [0]).pk [0,2,0,1])⟩)
  ·have hk:¬ (h.obj s n).2≠0:=by simpa using h24
   have how:=HpS.obj_w hW (n:=n) (by omega)
   refine aq (ac (aN (H':=row b9 [i64 (h.obj s n).1.1,i64 (h.obj s n).1.2.1,i64 (h.obj s n).1.2.2] 160::_) (fun w hh=>hh) (cW 8 Tryz.mixed (by kernel_rfl) (by kernel_rfl) ?_)))
   refine kQv (ah isAgg160 sizeOf160 aa aa) aa ?_
   refine kQm aa aa (kQm aa aa (kQm aa aa (kQv (aK aa) aa (kQv (aE (m:=_) dI aa aa) aa (kQv (ai isAgg146 aa aa) aa (kQv (dt aa aa) aa (bZ (aR [3,3] ?_))))))))
   refine aT aa (au call88 aa) (pV B _ _ _ h.bd bs bA (fun b S=>iP b S) _ _ (ui B h.bd bs h.c) (h.obj s n).1 how i v hv s h.S (hW.ok ho)) .free aa aa ?_ ?_
   rotate_left
   ·rintro _ _ ⟨s9,hm9,rfl,rfl⟩
    exact ba fun w hh=>⟨_,⟨s9,by unfold HpS.write;rw[if_pos ho,if_neg hk,show iJ gc (h.obj s n).1 i false v s h.S= .off s9 from hm9];rfl,rfl,rfl⟩,hh.dp [1,1,1,1]⟩
   rintro _ _ ⟨a2,S2,s2,hm2,rfl,hok2,rfl⟩
   refine kPa aa aa (ad (am [8] rfl (ay ?_)))
   exact ar results48 aa (fun w hw=>⟨_,⟨a2,{h with S:=S2},s2,by unfold HpS.write;rw[if_pos ho,if_neg hk,show iJ gc (h.obj s n).1 i false v s h.S= .ok (a2,S2) s2 from hm2];rfl,rfl,rfl⟩,qh (h:={h with S:=S2,T:=h.T}) (bs:=bs) (bt:=bt) (x:=x) ho ((hw.dp [2]).pk [2,1,1,1])⟩)
theorem uL(B:World)(Fr:List HP)(bh:Nat)(h:HpS)(s:Dev)(hW:dY h s)(wd rf:Int):
 ∀ w,Holds B (dB bh h::aB h.bd s::Fr) w→Calls Tryz.prog 47 [ptr bh,.agg #[i64 wd,i64 rf]].toArray w (Ret B (fun rv H'=>∃ a h' s',h.alloc s wd rf= .ok (a,h') s'∧rv= .tuple #[i64 a.1,i64 a.2]∧H'=dB bh h'::aB h.bd s'::Fr) (fun ch H'=>∃ s',h.alloc s wd rf= .off s'∧ch=dP∧H'=aB h.bd s'::Fr)):=by
 refine ao func47 aa ntmps47 aa (iM fun bs bt x=>(ac (ab (kPb (aY aa) aa fun b3=>(kPa aa aa (kPa aa aa (ad (ac (ac (ab (kPf dI isAgg146 aa aa aa aa ?_)))))))))))
 refine ax aa (au call80 aa) (bG (q:=nl h.o) (fun Fr=>kA B Fr bs h.S h.o)) .free aa aa ?_
 refine kPv (bj aa) aa (ad ?_)
 refine aZ aa (fun h13=> ?_) (fun h13=> ?_)
 ·have ho:h.o=false:=by simpa using h13
  have hof:¬ h.o=true:=by rw[ho];decide
  refine ac (ab (kPa aa aa (kPa aa aa (ad (am [5,4,3,0] rfl (ay ?_))))))
  exact bR results47 aa aa (fun w hw=>⟨_,⟨(0,2),h,s,by unfold HpS.alloc;rw[if_neg hof],rfl,rfl⟩,dZ (bs:=bs) (bt:=bt) (x:=x) (hw.dp [0])⟩)
 ·have ho:h.o=true:=by simpa using h13
  refine aR [2] (aN (H':=iP bs h.S::_) (fun w hh=>by rw[ho] at hh;exact hh) (aq (ac (wi [14] Tryz.mixed (by kernel_rfl) (by kernel_rfl) ?_))))
  refine Bt (kQm aa aa (kQv (aK aa) aa (kQv (aE (m:=_) io aa aa) aa (kQv (ai isAgg90 aa aa) aa (kQm aa aa (kQv (aK aa) aa (kQv (aE (m:=_) dV aa aa) aa (kQv (ah isAgg134 sizeOf134 aa aa) aa ?_))))))))
  refine kQv (ah isAgg102 sizeOf102 aa aa) aa ?_
  refine kQm aa aa (kQv (aK aa) aa (kQv (aE (m:=_) dI aa aa) aa (kQv (ai isAgg146 aa aa) aa (kQv (dt aa aa) aa (bZ (aR [5,0] ?_))))))
  refine aT aa (au call85 aa) (t7 B _ _ _ h.bd bs bA (fun b S=>iP b S) _ _ (ui B h.bd bs h.c) h.c hW.c wd rf s h.S (hW.ok ho)) .free aa aa ?_ ?_
  rotate_left
  ·rintro _ _ ⟨s9,hm9,rfl,rfl⟩
   exact ba fun w hh=>⟨_,⟨s9,by unfold HpS.alloc;rw[if_pos ho,show cL gc h.c wd rf s h.S= .off s9 from hm9];rfl,rfl,rfl⟩,hh.dp [1,1,1,1]⟩
  rintro _ _ ⟨⟨at2,a2⟩,S2,s2,hm2,rfl,hok2,rfl⟩
  refine ad (Bu (kQm aa aa (kQv (aA aa aa) aa (kQv (aA aa aa) aa (kQa aa aa (kQa aa aa (bZ (am [7,6,5,4,0] rfl (ac (ac (ab ?_)))))))))))
  refine kPm aa aa (kPv (al aa aa aa) aa (ad ?_))
  refine aZ aa (fun h33=> ?_) (fun h33=> ?_)
  ·have ha2:a2≠0:=by simpa using h33
   refine ac (ab (kPm aa aa (kPa aa aa (kPa aa aa (ad (ay ?_))))))
   exact bR results47 aa aa (fun w hw=>⟨_,⟨(0,a2),{h with S:=S2},s2,by unfold HpS.alloc;rw[if_pos ho,show cL gc h.c wd rf s h.S= .ok ((at2,a2),S2) s2 from hm2];simp only[aQ];rw[if_pos ha2],rfl,rfl⟩,qh (h:={h with S:=S2,T:=h.T}) (bs:=bs) (bt:=bt) (x:=x) ho ((hw.dp [2]).pk [2,1,1,1])⟩)
  ·have ha2:¬ a2≠0:=by simpa using h33
   refine aq (ac (ab (kPf jc isAgg130 aa aa aa aa (kPm aa aa (aR [4] (dO aa (au call72 aa) (j9 B _ bt h.T at2 hW.t1) .free aa aa ?_))))))
   refine kPa aa aa (kPa aa aa (ad (am [5,4] rfl (ay ?_))))
   exact bR results47 aa aa (fun w hw=>⟨_,⟨((h.T.take at2).1,0),{h with S:=S2,T:=(h.T.take at2).2},s2,by unfold HpS.alloc;rw[if_pos ho,show cL gc h.c wd rf s h.S= .ok ((at2,a2),S2) s2 from hm2];simp only[aQ];rw[if_neg ha2],rfl,rfl⟩,qh (h:={h with S:=S2,T:=(h.T.take at2).2}) (bs:=bs) (bt:=bt) (x:=x) ho ((hw.dp [3]).pk [3,2,0,1])⟩)
def pN(X:bE)(p:Int):Int:=(bJ X.went p).getD 0
def HpS.finR(h:HpS)(X:bE)(s:Dev)(a:Int)(h':HpS)(s':Dev):Prop:=∃ S',iZ h.c X.block h.S s= .ok (a,S') s'∧
 ((a≠0∧h'={h with X:=none,S:=S'})∨(a=0∧∃ ord:List (Int×Int),ord.Perm h.T.at_∧h'={h with X:=none,S:=S',T:=gC.moved (pN X) h.T.last ord}))
def HpS.colR(h:HpS)(s:Dev)(a:Int)(h':HpS)(s':Dev):Prop:=(h.o=true∧a=2∧h'=h∧s'=s)∨(h.o=false∧∃ X s1,(ee h.bd h.c (h.blk s) ((h.blk s).rts++h.words)).run s= .ok X s1∧h.finR X s1 a h' s')
def HpS.colOff(h:HpS)(s s':Dev):Prop:=h.o=false∧((ee h.bd h.c (h.blk s) ((h.blk s).rts++h.words)).run s= .off s'∨∃ X s1,(ee h.bd h.c (h.blk s) ((h.blk s).rts++h.words)).run s= .ok X s1∧iZ h.c X.block h.S s1= .off s')
theorem sZ{B:World}{Fr:List HP}{bh bs bt x:Nat}{h:HpS}{w:World}(ho:h.o=false)(hx:h.X=none)(hh:Holds B (cE bh bs bt x h::fu bs h.S::fZ bt h.T::Fr) w):Holds B (dB bh h::Fr) w:=
 vY (bs:=bs) (bt:=bt) (x:=x) ho (by rw[hx];exact(hh.unpr (p:=True) trivial).back 3 (by simp))
theorem tf(B:World)(Fr:List HP)(bh:Nat)(h:HpS)(s:Dev)(hW:dY h s)(ho:h.o=true):
 ∀ w,Holds B (dB bh h::aB h.bd s::Fr) w→Calls Tryz.prog 49 [ptr bh].toArray w (Ret B (fun rv H'=>∃ a h' s',h.commit s= .ok (a,h') s'∧rv=i64 a∧H'=dB bh h'::aB h.bd s'::Fr) (fun ch H'=>∃ s',h.commit s= .off s'∧ch=dP∧H'=aB h.bd s'::Fr)):=by
 refine ao func49 aa ntmps49 aa (iM fun bs bt x=>(aR [1] (aN (H':=iP bs h.S::_) (fun w hh=>by rw[ho] at hh;exact hh) (aR [0,3] (aN (H':=iP bs h.S::aB h.S.L.d s::_) (fun w hh=>by rw[hW.k.d];exact hh) (ac (ab (kPa aa aa (ad (ac (ab ?_)))))))))))
 refine kPf dI isAgg146 aa aa aa aa ?_
 refine aT aa (au call89 aa) (mT B _ bs h.S s (hW.sw ho).1 (hW.sw ho).2) .free aa aa ?_ ?_
 rotate_left
 ·rintro _ _ ⟨s9,hm9,rfl,rfl⟩
  exact ba fun w hh=>⟨_,⟨s9,by unfold HpS.commit;rw[if_pos ho,hm9];rfl,rfl,rfl⟩,by rw[hW.k.d] at hh;exact hh.dp [1,1,1]⟩
 rintro _ _ ⟨S2,s2,hm2,rfl,rfl⟩
 refine kPa aa aa (ad (ay ?_))
 exact ar results49 aa (fun w hw=>⟨_,⟨0,{h with o:=false,S:=S2},s2,by unfold HpS.commit;rw[if_pos ho,hm2];rfl,rfl,rfl⟩,by rw[hW.k.d] at hw;exact vY (h:={h with o:=false,S:=S2}) (bs:=bs) (bt:=bt) (x:=x) aa (hw.pk [2,0,1,1])⟩)
theorem tg(B:World)(Fr:List HP)(bh:Nat)(h:HpS)(s:Dev)(hW:dY h s)(ho:h.o=false):
 ∀ w,Holds B (dB bh h::aB h.bd s::Fr) w→Calls Tryz.prog 49 [ptr bh].toArray w (Ret B (fun rv H'=>∃ a h' s',h.commit s= .ok (a,h') s'∧rv=i64 a∧H'=dB bh h'::aB h.bd s'::Fr) (fun ch H'=>∃ s',h.commit s= .off s'∧ch=dP∧H'=aB h.bd s'::Fr)):=by
 refine ao func49 aa ntmps49 aa (iM fun bs bt x=>(aR [1] (aN (H':=fu bs h.S::_) (fun w hh=>by rw[ho] at hh;exact hh) (ac (ab (kPa aa aa (ad (ac (ab (kPf dI isAgg146 aa aa aa aa (ax aa (au call89 aa) (bG (q:=fu) (fun Fr=>r7 B Fr bs h.S)) .free aa aa ?_)))))))))))
 refine kPa aa aa (ad (ay ?_))
 exact ar results49 aa (fun w hw=>⟨_,⟨2,h,s,by unfold HpS.commit;rw[if_neg (by rw[ho];decide)],rfl,rfl⟩,vY (bs:=bs) (bt:=bt) (x:=x) ho (hw.pk [1])⟩)
theorem uO(B:World)(Fr:List HP)(bh:Nat)(h:HpS)(s:Dev)(hW:dY h s):∀ w,Holds B (dB bh h::aB h.bd s::Fr) w→Calls Tryz.prog 49 [ptr bh].toArray w (Ret B (fun rv H'=>∃ a h' s',h.commit s= .ok (a,h') s'∧rv=i64 a∧H'=dB bh h'::aB h.bd s'::Fr) (fun ch H'=>∃ s',h.commit s= .off s'∧ch=dP∧H'=aB h.bd s'::Fr)):=by
 cases ho:h.o
 ·exact tg B Fr bh h s hW ho
 ·exact tf B Fr bh h s hW ho
theorem yW(B:World)(Fr:List HP)(c1 x:Nat)(X:bE)(p:Int)(hp:0≤p∧p≤1000000):
 ∀ w,Holds B (row c1 [ptr x] 147::eQ x X::Fr) w→Calls Tryz.prog 187 [i64 p,ptr c1].toArray w (a8 B (row c1 [ptr x] 147::eQ x X::Fr) (i64 (pN X p))):=by
 refine ao func187 aa ntmps187 aa (ac (ab (kPa aa aa (ad (ac (ab (kPv (ai isAgg147 aa aa) aa (kPm aa aa (kPv (cX runUnderlying3 runUnderlying25 aa (dT (by omega))) aa (ax aa (au call118 aa) (bG (q:=eQ) (fun Fr=>tK B Fr x X p)) .free aa aa ?_))))))))))
 refine kPa aa aa (ad (ay ?_))
 exact ar results187 aa (fun w hw=>⟨rfl,hw⟩)
theorem Ax(B:World)(c1 x:Nat)(X:bE):BG B 187 [] [ptr c1] Unit (fun _=>[row c1 [ptr x] 147,eQ x X]) (fun p=>0≤p∧p≤1000000) (pN X) (fun _ e=>e) where
 enter:=call187
 says:=fun Fr p e hp w hw=>(yW B Fr c1 x X p hp w hw).mono fun en w' h=>by
  obtain⟨rfl,h⟩:=h
  exact⟨_,⟨rfl,rfl⟩,h⟩
theorem uN(B:World)(Fr:List HP)(bh bs bt x:Nat)(h:HpS)(s:Dev)(X:bE)(hx:h.X=some X)(ho:h.o=false)(hX:eX X)(hrl0:0<X.b.rts.length)(hu:U64 s)(hK:z7 h.S h.bd h.c s)(htp:∀ p∈h.T.at_,0≤p.2∧p.2≤1000000):
 ∀ w,Holds B (cE bh bs bt x h::fu bs h.S::fZ bt h.T::eQ x X::aB h.bd s::Fr) w→Calls Tryz.prog 136 [ptr bh].toArray w (Ret B (fun rv H'=>∃ a h' s',h.finR X s a h' s'∧rv=i64 a∧H'=dB bh h'::aB h.bd s'::Fr) (fun ch H'=>∃ s',iZ h.c X.block h.S s= .off s'∧ch=dP∧H'=aB h.bd s'::Fr)):=by
 refine ao func136 aa ntmps136 aa (aN (H':=row bh [ptr h.bd,i64 h.c.log,i64 h.c.roots,i64 h.c.space,ptr bs,ptr bt,ptr x] 149::_) (fun w hh=>by have h9:=hh;unfold cE at h9;rw[hx] at h9;exact h9) (ac (ab (kPa aa aa (ad (ac (ab (kPf kj isAgg147 aa aa aa aa (kPb (cf zeroValue147 aa) aa fun b3=> ?_)))))))))
 refine kPs (aO sizeOf147 aa aa (by first | rfl | assumption) rfl) rfl ?_;refine ad ?_;refine ac ?_;refine ab ?_;refine kPm aa aa ?_;refine kPv (aK aa) aa ?_;refine kPv (aE (m:=_) kj aa aa) aa ?_
 refine kPs (aO sizeOf147 aa aa (by first | rfl | assumption) rfl) rfl ?_;refine ad ?_;refine am [3,2,0] rfl ?_;refine ac ?_;refine ac ?_;refine aR [1,0] ?_;refine aN (H':=cE bh bs bt x {h with X:=none}::row b3 [ptr x] 147::_) (fun w hh=>hh) ?_;refine cW 13 Tryz.mixed (by kernel_rfl) (by kernel_rfl) ?_;refine kQm aa aa ?_;refine kQv (aK aa) aa ?_;refine kQv (aE (m:=_) io aa aa) aa ?_
 refine kQv (ai isAgg90 aa aa) aa (kQm aa aa (kQv (aK aa) aa (kQv (aE (m:=_) dV aa aa) aa (kQv (ah isAgg134 sizeOf134 aa aa) aa ?_))))
 refine kQm aa aa (kQv (aK aa) aa (kQv (aE (m:=_) dI aa aa) aa (kQv (ai isAgg146 aa aa) aa (kQv (ai isAgg147 aa aa) aa (bZ (aR [2,3,3] ?_))))))
 refine aT aa (au call172 aa) (wj B _ bs x h.bd h.S X hX hrl0 h.c s hu hK) .free aa aa ?_ ?_
 rotate_left
 ·rintro _ _ ⟨s9,hm9,rfl,rfl⟩
  exact ba fun w hh=>⟨_,⟨s9,hm9,rfl,rfl⟩,hh.dp [1,1,1]⟩
 rintro _ _ ⟨a2,S2,s2,hm2,rfl,rfl⟩
 refine kPa aa aa (ad (am [4,3,2,0] rfl (ac (ab (kPm aa aa (kPv (al aa aa aa) aa (ad ?_)))))))
 refine aZ aa (fun h27=> ?_) (fun h27=> ?_)
 ·have ha2:a2≠0:=by simpa using h27
  refine ac (ab (kPm aa aa (kPa aa aa (ad (ay ?_)))))
  exact ar results136 aa (fun w hw=>⟨_,⟨a2,{h with X:=none,S:=S2},s2,⟨S2,hm2,.inl ⟨ha2,rfl⟩⟩,rfl,rfl⟩,sZ (h:={h with X:=none,S:=S2}) (bs:=bs) (bt:=bt) (x:=x) ho aa ((hw.dp [1,3]).pk [2,0,1])⟩)
 ·have ha2:a2=0:=by simpa using h27
  refine aq (ac (ab (kPf jc isAgg130 aa aa aa aa (kPv (dt aa aa) aa (aR [5,4,1] (aJ aa (au call186 aa) ((fun w hh=>xk B _ bt h.T _ [] [ptr b3] Unit _ _ _ _ (Ax B b3 x X) htp () w hh)) .free aa aa ?_))))))
  rintro _ _ ⟨ord,hperm,rfl⟩
  refine aN (H':=fZ bt (gC.moved (pN X) h.T.last ord)::row b3 [ptr x] 147::eQ x X::fu bs S2::aB h.bd s2::cE bh bs bt x {h with X:=none}::Fr) (fun w hh=>hh) (ad (am [2] rfl (ac (ab (kPa aa aa (ad (ay ?_)))))))
  exact ar results136 aa (fun w hw=>⟨_,⟨0,{h with X:=none,S:=S2,T:=gC.moved (pN X) h.T.last ord},s2,⟨S2,by rw[←ha2];exact hm2,.inr ⟨rfl,ord,hperm,rfl⟩⟩,rfl,rfl⟩,sZ (h:={h with X:=none,S:=S2,T:=gC.moved (pN X) h.T.last ord}) (bs:=bs) (bt:=bt) (x:=x) ho aa ((hw.dp [1,1]).pk [3,1])⟩)
theorem uE{k:Int}{v:Int}:∀ {l:List (Int×Int)} {p:Int×Int},p∈mset l k v→p.2=v∨p∈l
 | [],p,h=>by
   simp only[mset,List.mem_singleton] at h
   exact .inl (by rw[h])
 | q::l,p,h=>by
   unfold mset at h
   split at h
   ·rcases List.mem_cons.1 h with h | h
    ·exact .inl (by rw[h])
    ·exact .inr (List.mem_cons_of_mem _ h)
   ·rcases List.mem_cons.1 h with h | h
    ·exact .inr (by rw[h];exact List.mem_cons_self ..)
    ·exact(uE h).imp id (List.mem_cons_of_mem _)
theorem vN{to_:Int→Int}{P:Int→Prop}(hP:∀ p,P (to_ p)):∀ (ord:List (Int×Int)) (x:List (Int×Int)×List (Int×Int)),(∀ p∈x.1,P p.2)→(∀ p∈(ord.foldl (dr to_) x).1,P p.2)∧(ord.foldl (dr to_) x).1.length≤x.1.length+ord.length
 | [],x,h=>⟨h,by simp⟩
 | a::t,x,h=>by
   simp only[List.foldl_cons,List.length_cons]
   have hx:(∀ p∈(dr to_ x a).1,P p.2)∧(dr to_ x a).1.length≤x.1.length+1:=by
    unfold dr
    split
    ·refine⟨fun p hp=> ?_,oD ..⟩
     rcases uE hp with e | e
     ·rw[e];exact hP _
     ·exact h p e
    ·exact⟨h,by omega⟩
   have:=vN hP t _ hx.1
   exact⟨this.1,by omega⟩
theorem dY.moved{h:HpS}{s s':Dev}(hW:dY h s){to_:Int→Int}(hto:∀ p,0≤to_ p∧to_ p≤1000000){ord:List (Int×Int)}(hp:ord.Perm h.T.at_){S':bA}(hL:dE S'.L)(hd:S'.L.d=h.bd)(hc:S'.L.c=h.c)(hu:U64 s')(hn:s'.n=s.n):dY {h with X:=none,o:=false,S:=S',T:=gC.moved to_ h.T.last ord} s':=by
 obtain⟨g1,g2⟩:=vN (to_:=to_) (P:=fun v=>0≤v∧v≤1000000) hto ord ([],[]) (fun _ h=>by cases h)
 exact⟨hW.c,⟨hL,by rw[hn];exact hW.k.n,hd,hc⟩,fun h=>(by cases h),hu,hW.t1,by
  show(ord.foldl (dr to_) ([],[])).1.length≤_
  have h1:=hp.length_eq;have h2:=hW.tl
  simp only[List.length_nil] at g2;omega,g1,fun X hX=>(by cases hX)⟩
theorem HpS.words_b{h:HpS}{s:Dev}(hW:dY h s):(∀ v∈h.words,0≤v∧v<18446744073709551616)∧h.words.length≤800000:=
 ⟨fun v hv=>by
  obtain⟨n,_,rfl⟩:=List.mem_map.1 hv
  have:=hW.pb n;omega,by have:=hW.tl;simp[HpS.words,ce];exact this⟩
abbrev HpS.ncol(h:HpS)(s:Dev):bE:=ee h.bd h.c (h.blk s) ((h.blk s).rts++h.words)
theorem dY.ncol{h:HpS}{s:Dev}(hW:dY h s):eX (h.ncol s):=
 lK hW.c (dA hW.c hW.u) (fG hW.c) (fF hW.u) (fun v hv=>by
  rcases List.mem_append.1 hv with hv | hv
  ·exact fF hW.u v hv
  ·exact(HpS.words_b hW).1 v hv)
theorem CZ{h:HpS}{s s1:Dev}{X:bE}{a:Int}{h':HpS}{s':Dev}(hW:dY h s)(ho:h.o=false)(hX:eX X)(hu:U64 s1)(hn:s1.n=s.n)(e:h.finR X s1 a h' s'):dY h' s'∧h'.o=false∧h'.X=none∧h'.bd=h.bd∧h'.c=h.c:=by
 obtain⟨S',e1,hor⟩:=e
 obtain⟨k1,k2,k3,k4,k5,_⟩:=zb (tR hX) hW.k.w hu (by rw[hn];exact hW.k.n) e1
 rcases hor with ⟨_,rfl⟩ | ⟨_,ord,hp,rfl⟩
 ·exact⟨⟨hW.c,⟨k3,by rw[k2,hn];exact hW.k.n,k4.trans hW.k.d,k5.trans hW.k.c⟩,fun h2=>(by rw[show h.o=true from h2] at ho;cases ho),k1,hW.t1,hW.tl,hW.tp,fun X hX=>(by cases hX)⟩,ho,rfl,rfl,rfl⟩
 ·have h1:=hW.moved (fun p=>hX.vb p) hp k3 (k4.trans hW.k.d) (k5.trans hW.k.c) k1 (k2.trans hn)
  rw[←ho] at h1
  exact⟨h1,ho,rfl,rfl,rfl⟩
theorem C9{h:HpS}{s:Dev}{a:Int}{h':HpS}{s':Dev}(hW:dY h s)(ho:h.o=false)(e:h.colR s a h' s'):dY h' s'∧h'.o=false∧h'.X=none∧h'.bd=h.bd∧h'.c=h.c:=by
 rcases e with ⟨h1,_⟩ | ⟨_,X,s1,e1,e2⟩
 ·rw[ho] at h1;cases h1
 ·obtain⟨g1,g2,_⟩:=oa _ _ _ _ _ hW.ncol hW.u e1
  exact CZ hW ho g1 g2 (vC e1) e2
theorem rd(B:World)(Fr:List HP)(bh:Nat)(h:HpS)(s:Dev)(hW:dY h s)(hb:(s.block h.c).2=0):
 ∀ w,Holds B (dB bh h::aB h.bd s::Fr) w→Calls Tryz.prog 82 [ptr bh].toArray w (Ret B (fun rv H'=>∃ a h' s',h.colR s a h' s'∧rv=i64 a∧H'=dB bh h'::aB h.bd s'::Fr) (fun ch H'=>∃ s',h.colOff s s'∧ch=dP∧H'=aB h.bd s'::Fr)):=by
 refine ao func82 aa ntmps82 aa (iM fun bs bt x=> ?_)
 have hbk:=dA (s:=s) hW.c hW.u
 have hbl:(h.blk s).rts.length≤16:=fG (s:=s) hW.c
 obtain⟨hwb,hwl⟩:=HpS.words_b hW
 refine ac (ab (kPa aa aa (ad (ac (ac (ab (kPf dI isAgg146 aa aa aa aa (ax aa (au call80 aa) (bG (q:=nl h.o) (fun Fr=>kA B Fr bs h.S h.o)) .free aa aa ?_))))))))
 refine ad ?_
 refine aZ aa (fun h8=> ?_) (fun h8=> ?_)
 ·have ho:h.o=true:=by simpa using h8
  refine ac (ab (kPa aa aa (ad (ay ?_))))
  exact ar results82 aa (fun w hw=>⟨_,⟨2,h,s,.inl ⟨ho,rfl,rfl,rfl⟩,rfl,rfl⟩,dZ (bs:=bs) (bt:=bt) (x:=x) hw⟩)
 ·have ho:h.o=false:=by simpa using h8
  refine aR [1] (aN (H':=fu bs h.S::_) (fun w hh=>by rw[ho] at hh;exact hh) (aq (ac (ab (kPm aa aa (aR [1,3] (aJ aa (au call81 aa) (gy B _ bh bs bt x h s hW.c hW.u) .free aa aa ?_)))))))
  rintro _ _ ⟨sv,hsv,rfl,rfl⟩
  refine cB fun qb cb hqb hqbi=> ?_
  subst hqb
  refine kPb (aD zeroValue151 aa) aa fun b3=> ?_
  refine kPs (az (vs:=_) sizeOf151 aa aa aa (by first | rfl | exact et (by assumption)) rfl) rfl ?_;refine ad ?_;refine am [3,2,0] rfl ?_;refine ac ?_;refine aN (H':=row b3 [i64 (h.blk s).act,i64 (h.blk s).used,.slice qb (h.blk s).rts.length cb] 151::_) (fun w hh=>hh) ?_
  refine cN [0,1,2,3,4,5,6,7,8,9,11,12,14,10,13,15,16,17,18,19,20] [10,13,15,16,17,20] [0,1,2,3,4,5,6,7,8,9,11,12,14] [10,13,15,16,17] [cE bh bs bt x h,row b3 [i64 (h.blk s).act,i64 (h.blk s).used,.slice qb (h.blk s).rts.length cb] 151] Tryz.mixed (by kernel_rfl) ?_
  refine an aa aa aa (aj aa) .free aa (an aa aa aa (aj aa) .free aa (an aa aa aa (aK aa) .free aa (an aa aa aa (aE (m:=_) io aa aa) .free aa (an aa aa aa (ai isAgg90 aa aa) .free aa (an aa aa aa (aj aa) .free aa (an aa aa aa (aK aa) .free aa (an aa aa aa (aE (m:=_) dV aa aa) .free aa (an aa aa aa (ah isAgg134 sizeOf134 aa aa) .free aa ?_))))))))
  refine an aa aa aa (ah isAgg151 sizeOf151 aa aa) .free aa ?_
  refine an aa aa aa (aE (m:=_) eU aa aa) .free aa (an aa aa aa (ai isAgg30 aa aa) .free aa (an aa aa aa (aj aa) .free aa (aS aa aa (kPb (uX runUnderlying30 sizeOf25) aa fun b21=>(aN (H':=cS 0 (.slice (some ⟨b21,0,none⟩) 0 0,[])::_) (fun w hh=>gV (xs:=[]) aa aa hh) (ad (cO (aS aa aa (cJ aa (dW (yv:= .slice qb (h.blk s).rts.length cb) (ys:=(h.blk s).rts) aa aa runUnderlying30 runUnderlying30 ⟨_,rfl⟩ sizeOf25 zeroValue25 aa (fun _=>rfl) hG aa aa (cM (2 - 1) aa) (by simp;omega)) .free aa aa ?_)))))))))
  rintro nv2 _ ⟨hnv2,rfl⟩
  refine ad (cO (aS aa aa (aR [3,5] (aJ aa (au call134 aa) (p8 B _ bh bs bt x h s hW) .free aa aa ?_))))
  rintro wv _ ⟨hwv,rfl⟩
  refine cB fun qw cw hqw hqwi=> ?_
  subst hqw
  refine ad (cO (aS aa aa (aR [3] (cJ aa (dW (yv:= .slice qw h.words.length cw) (ys:=h.words) aa aa runUnderlying30 runUnderlying30 ⟨_,rfl⟩ sizeOf25 zeroValue25 aa (fun _=>rfl) hG aa aa (cM (1 - 1) aa) (by simp;omega)) .free aa aa ?_))))
  rintro nv3 _ ⟨hnv3,rfl⟩
  refine cB fun qn cn hqn0 hqni=> ?_
  subst hqn0
  have hqn:qn=none→(h.blk s).rts++h.words=[]:=fun e=>by
   cases hl:(h.blk s).rts++h.words with
   | nil=>rfl
   | cons a t=>
     obtain⟨b,o,h⟩:=hqni 0 (by show 0<((h.blk s).rts++h.words).length;rw[hl];exact Nat.succ_pos _)
     rw[e] at h;cases h
  refine ad (cO (aS aa aa (aR [5] (aJ aa (au call133 aa) (rC B _ h.bd h.c hW.c (h.blk s) hbk (.slice qb (h.blk s).rts.length cb) aa qn cn ((h.blk s).rts++h.words) (by simp;omega) hqn (cM 1 aa)) .free aa aa ?_))))
  rintro _ _ ⟨x2,rfl,rfl⟩
  refine ad (cO (aU aa aa aa (aK aa) .free aa (aU aa aa aa (aE (m:=_) kj aa aa) .free aa (aS aa aa (aR [3] (kPs (aO sizeOf147 aa aa aa aa) aa (aN (H':=cE bh bs bt x2 {h with X:=some (h.ncol s)}::_) (fun w hh=>hh) (ad (c6 aa (cF (am [2,0] rfl ?_)))))))))))
  refine ac (ab (kPf kj isAgg147 aa aa aa aa (aR [1,5] ?_)))
  refine aT aa (au call135 aa) (wx B _ x2 (h.ncol s) hW.ncol s hW.u) .free aa aa ?_ ?_
  rotate_left
  ·rintro _ _ ⟨s9,hm9,rfl,rfl⟩
   exact ba fun w hh=>⟨_,⟨s9,⟨ho,.inl hm9⟩,rfl,rfl⟩,(show Holds B (aB h.bd s9::_) w from hh).dp [1,1,1,1,1,1,1]⟩
  rintro _ _ ⟨X,s1,hm1,rfl,rfl⟩
  obtain⟨hX1,hu1,hXb,hXbd,hXc,_⟩:=oa _ _ _ _ _ hW.ncol hW.u hm1
  have hn1:=vC hm1
  refine aN (H':=eQ x2 X::aB h.bd s1::_) (fun w hh=>hh) (ad (ac (aR [2] (aN (H':=cE bh bs bt x2 {h with X:=some X}::_) (fun w hh=>hh) (ab (kPm aa aa (aR [0,6,4,0,0] ?_)))))))
  refine aT aa (au call136 aa) (uN B _ bh bs bt x2 {h with X:=some X} s1 X aa ho hX1 (by rw[hXb];exact qD hW.c hb) hu1 ⟨hW.k.w,by rw[hn1];exact hW.k.n,hW.k.d,hW.k.c⟩ hW.tp) .free aa aa ?_ ?_
  rotate_left
  ·rintro _ _ ⟨s9,hm9,rfl,rfl⟩
   exact ba fun w hh=>⟨_,⟨s9,⟨ho,.inr ⟨X,s1,hm1,hm9⟩⟩,rfl,rfl⟩,(show Holds B (aB h.bd s9::_) w from hh).dp [1,1,1,1]⟩
  rintro _ _ ⟨a2,h2,s2,hf2,rfl,rfl⟩
  refine kPa aa aa (ad (am [2] rfl (ay ?_)))
  exact ar results82 aa (fun w hw=>⟨_,⟨a2,h2,s2,.inr ⟨ho,X,s1,hm1,hf2⟩,rfl,rfl⟩,(hw.dp [2,2,2,2])⟩)
end Go.Proofs.YtoakdoeajpjgkaaGreatDoor
