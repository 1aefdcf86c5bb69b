/- Part of a law's texts. Conditions: none. -/
import Derived.Test.YtlcibdhmgclfjaaGreatQL17Rg
import Derived.LaidEql
open Go.Proofs.Tryz
set_option linter.all false
namespace Go.Proofs.YtlcibdhmgclfjaaGreat
open Go
theorem qO{p:Pow}(h:p.lim<0):p.out=false:=by simp[Pow.out];omega
theorem ng{s:Dev}{i v:Int}(h:s.pow.lim<0)(hi:0≤i∧i<s.n):s.store i v= .ok 0 (s.up.st i.toNat v):=by
 have:s.has i=true:=by simp[Dev.has,hi]
 simp[Dev.store,this,qO h]
theorem rC{s:Dev}{i:Int}(h:s.pow.lim<0)(hi:0≤i∧i<s.n):s.flush i= .ok 0 (s.up.fl i.toNat):=by
 have:s.has i=true:=by simp[Dev.has,hi]
 simp[Dev.flush,this,qO h]
theorem nP{s:Dev}(h:s.pow.lim<0):s.fence= .ok () s.up.fe:=by simp[Dev.fence,qO h]
theorem vd{x:Bool}(h:x=true):Ending.returned (.bool x)=Ending.returned (.bool true):=by rw[h]
theorem Ej{α:Type}{a b:α}{s t:Dev}(h:Out.ok a s=Out.ok b t):a=b∧s=t:=by cases h;exact⟨rfl,rfl⟩
theorem Ei{α:Type}{a:α}{s t:Dev}(h:Out.ok a s=Out.off t):False:=by cases h
theorem EM(B:World)(Fr:List HP)(bp pb:Nat):
 ∀ w,Holds B (row bp [ptr pb] 78::lr pb ⟨1,0⟩::Fr) w→Calls Tryz.prog 222 [ptr bp].toArray w (Ret B (fun _ _=>False) (fun c H'=>c=dN∧H'=row bp [ptr pb] 78::lr pb ⟨1,1⟩::Fr)):=by
 refine au func222 aa ntmps222 aa (ac (ab (kPv (ae isAgg78 aa aa) aa ?_)))
 refine aY aa (aA call165 aa) (da (fun Fr=>m8 _ Fr _ _)) .free aa aa ?_ ?_
 rotate_left
 ·rintro _ _ ⟨_,⟨ho,rfl,rfl⟩,rfl⟩
  first | (exfalso;revert ho;decide) | exact bz fun w hw=>⟨_,⟨rfl,rfl⟩,hw⟩
 rintro _ _ ⟨_,⟨ho,rfl,rfl⟩,rfl⟩
 refine ad (ab (kPv (ae isAgg78 aa aa) aa ?_))
 refine aY aa (aA call165 aa) (da (fun Fr=>m8 _ Fr _ _)) .free aa aa ?_ ?_
 rotate_left
 ·rintro _ _ ⟨_,⟨ho,rfl,rfl⟩,rfl⟩
  first | (exfalso;revert ho;decide) | exact bz fun w hw=>⟨_,⟨rfl,rfl⟩,hw⟩
 rintro _ _ ⟨_,⟨ho,rfl,rfl⟩,rfl⟩
 exfalso;revert ho;decide
theorem EL(B:World)(H:List HP):
 ∀ w,Holds B H w→Calls Tryz.prog 224 [].toArray w (bB B H (.tuple #[])):=by
 refine au func224 aa ntmps224 aa (ay ?_)
 exact cS results224 (fun w hw=>⟨rfl,hw⟩)
theorem Ai(B:World)(H:List HP):
 ∀ w,Holds B H w→Calls Tryz.prog 220 [].toArray w (bB B H (.bool true)):=by
 refine au func220 aa ntmps220 aa (ac (ab (kPa aa aa (ad (ac (ab (aQ aa (aA call35 aa) (t7 _ _ _) .free aa aa ?_)))))))
 rintro _ _ ⟨pb,rfl,rfl⟩
 refine aC aa (cA zeroValue78 aa) .free aa aa ?_
 rintro _ _ ⟨b1,rfl,rfl⟩
 refine aD aa (aR sizeOf78 aa aa (by first | rfl | assumption) rfl) .free rfl ?_
 rintro _ _ rfl
 refine ad (ac (ac (ab (kPv (ae isAgg78 aa aa) aa (kPv (dq runUnderlying78 aa aa aa) aa (ad (cf aa (rfl) (ay (ac (ab (kPv (dm aa aa) aa ?_)))))))))))
 refine cL aa (aA call36 aa) (ye false (row b1 [ptr pb] 78::lr pb ⟨1,1⟩::H) call222 (fun A w hw=>(EM B (A::H) b1 pb w ((hw.front 2 aa).front 2 aa)).mono (Ret.mono (fun _ _ h=>h.elim) (fun c H' h=>⟨rfl,h.1,fun w hw=>h.2▸hw |>.front 2 aa⟩)))) .free aa aa ?_
 refine kPa aa aa (ad (ac (ab (kPm aa aa (kPv (bF aa) aa (kPm aa aa ?_))))))
 apply dr (tp:=14) (t:=10) (σ1:=[(10,_),(0,_)]) 4 rfl ⟨rfl,rfl,trivial⟩
 ·intro hg1
  refine aq aa (ae isAgg78 aa aa) (.on aa aa (ah hg1)) aa aa (aE aa (aA call223 aa) (bU (fun Fr=>Ck _ Fr _ _)) (.on aa aa (ah hg1)) aa aa ?_)
  refine aq aa (an aa aa aa) (.on aa aa (ah hg1)) aa aa (kPv (aH aa hg1 aa) aa ?_)
  exact ba aa ⟨rfl,rfl,trivial⟩ (cV hg1)
 ·intro hg1
  refine ar aa (.on aa aa (ai hg1)) aa (ar aa (.on aa aa (ai hg1)) aa (ar aa (.on aa aa (ai hg1)) aa (kPv (aL aa hg1 aa) aa ?_)))
  exact ba aa ⟨rfl,rfl,trivial⟩ (cW hg1)
 refine kPm aa aa ?_
 apply dr (tp:=17) (t:=15) (σ1:=[(15,_),(0,_)]) 2 rfl ⟨rfl,rfl,trivial⟩
 ·intro hg2
  refine cL aa (aA call36 aa) (ye true (row b1 [ptr pb] 78::lr pb ⟨1,1⟩::H) call224 (fun A w hw=>(EL B _ w hw).mono fun _ _ h=>h.ret ⟨rfl,fun _ h=>h⟩)) (.on aa aa (ah hg2)) aa aa ?_
  refine kPv (aH aa hg2 aa) aa ?_
  exact ba aa ⟨rfl,rfl,trivial⟩ (cV hg2)
 ·intro hg2
  refine ar aa (.on aa aa (ai hg2)) aa (kPv (aL aa hg2 aa) aa ?_)
  exact ba aa ⟨rfl,rfl,trivial⟩ (cW hg2)
 refine kPa aa aa (ad (az ?_))
 exact ax results220 aa (fun w hw=>⟨rfl,hw.tail.tail⟩)
theorem uc(B:World)(Fr:List HP)(sv:Value)(xs:List Int)(hx0:0<xs.length)(hx1:xs.length≤100000)(hr:SlR B Fr sv (xs.map w64)):
 ∀ w,Holds B Fr w→Calls Tryz.prog 109 [sv].toArray w (Ret B (fun rv H'=>∃ b pa,rv=ptr b∧H'=aG b ⟨pa,⟨-1,0⟩,(xs.length+7) / 8*8,fun i=>xs.getD i 0,fun i=>xs.getD i 0,fun _=>none⟩::Fr) (fun _ _=>False)):=by
 refine au func109 aa ntmps109 aa (ac (ab (kPa aa aa (ad (ac (ab (aQ aa (aA call35 aa) (t7 _ _ _) .free aa aa ?_)))))))
 rintro _ _ ⟨pb,rfl,rfl⟩
 refine kPm aa aa (aQ aa (aA call66 aa) (ym _ _ _ _ _ xs hx0 hx1 hr) .free aa aa ?_)
 rintro _ _ ⟨b,rfl,rfl⟩
 refine kPa aa aa (ad (az ?_))
 exact ax results109 aa (fun w hw=>⟨_,⟨b,pb,rfl,rfl⟩,hw⟩)
theorem DA(B:World)(H:List HP)(i:Int):
 ∀ w,Holds B H w→Calls Tryz.prog 221 [i64 i].toArray w (bB B H (.int .u8 0)):=by
 refine au func221 aa ntmps221 aa (ac (ab (kPa aa aa (ad (ac (ab (kPa aa aa (ad (az ?_)))))))))
 exact ax results221 aa (fun w hw=>⟨rfl,hw⟩)
theorem Ah(B:World)(H:List HP):
 ∀ w,Holds B H w→Calls Tryz.prog 219 [].toArray w (bB B H (.bool true)):=by
 refine au func219 aa ntmps219 aa (ac (ab (kPa aa aa (ad (ac (ac (ab (aE aa (aA call220 aa) (Ai _ _) .free aa aa ?_))))))))
 refine kPv (bF aa) aa (ad (cf aa (rfl) (ay (ac (ab (aC aa (iQ runUnderlying25 sizeOf26 zeroValue26 aa aa aa) .free aa aa ?_))))))
 rintro _ _ ⟨b6,rfl,rfl⟩
 refine aQ aa (aA call109 aa) (uc _ _ _ [1] (by decide) (by decide) (SlR.row aa aa)) .free aa aa ?_
 rintro _ _ ⟨bd,pa,rfl,rfl⟩
 refine kPa aa aa (ad (ac (ac (ab (kPm aa aa (kPv (dq runUnderlying28 aa aa aa) aa (ad (cf aa (rfl) (ay (ac (ab ?_)))))))))))
 refine kPm aa aa ?_
 refine aY aa (aA call120 aa) (da (q:=aG) (fun Fr=>cZ _ Fr _ _ _ _)) .free aa aa ?_ ?_
 rotate_left
 ·rintro _ _ ⟨s9,⟨hm9,rfl⟩,rfl⟩
  exact(Ei ((ng (s:=(⟨pa,⟨-1,0⟩,8,fun i=>([1]:List Int).getD i 0,fun i=>([1]:List Int).getD i 0,fun _=>none⟩:Dev)) (i:=0) (v:=5) (show(-1:Int)<0 by decide) ⟨by decide,show(0:Int)<8 by decide⟩).symm.trans hm9)).elim
 rintro _ _ ⟨s1,⟨e1,hm1,rfl⟩,rfl⟩
 obtain⟨rfl,rfl⟩:=Ej ((ng (s:=(⟨pa,⟨-1,0⟩,8,fun i=>([1]:List Int).getD i 0,fun i=>([1]:List Int).getD i 0,fun _=>none⟩:Dev)) (i:=0) (v:=5) (show(-1:Int)<0 by decide) ⟨by decide,show(0:Int)<8 by decide⟩).symm.trans hm1)
 refine kPa aa aa (ad (ao [2,1,0] rfl (ac (ab (kPm aa aa (aE aa (aA call71 aa) (bU (q:=aG) (fun Fr=>cH _ Fr _ _ _)) .free aa aa ?_))))))
 refine kPa aa aa (ad (ac (ab (kPm aa aa (aQ aa (aA call16 aa) (zs _ _ _ ((⟨pa,⟨-1,0⟩,8,fun i=>([1]:List Int).getD i 0,fun i=>([1]:List Int).getD i 0,fun _=>none⟩:Dev).up.st 0 5) 221 [] (fun _=>0) ⟨call221,fun _=>by decide,fun H _ i _=>DA B H i⟩) .free aa aa ?_)))))
 rintro _ _ rfl
 refine ad (ac (ab (kPm aa aa (kPv (an aa aa aa) aa (kPm aa aa ?_)))))
 apply dr (tp:=21) (t:=18) (σ1:=[(18,_),(1,_),(0,_)]) 3 rfl (aF rfl)
 ·intro hg1
  refine aq aa (ap aa) (.on aa aa (ah hg1)) aa aa (aq aa (an aa aa aa) (.on aa aa (ah hg1)) aa aa (kPv (aH aa hg1 aa) aa ?_))
  exact ba aa (aF aa) (cV hg1)
 ·intro hg1
  refine ar aa (.on aa aa (ai hg1)) aa (ar aa (.on aa aa (ai hg1)) aa (kPv (aL aa hg1 aa) aa ?_))
  exact ba aa (aF aa) (cW hg1)
 refine kPm aa aa ?_
 apply dr (tp:=26) (t:=22) (σ1:=[(22,_),(1,_),(0,_)]) 4 rfl (aF rfl)
 ·intro hg2
  refine aq aa (ap aa) (.on aa aa (ah hg2)) aa aa (aE aa (aA call71 aa) (bU (q:=aG) (fun Fr=>cH _ Fr _ _ _)) (.on aa aa (ah hg2)) aa aa ?_)
  refine aq aa (an aa aa aa) (.on aa aa (ah hg2)) aa aa (kPv (aH aa hg2 aa) aa ?_)
  exact ba aa (aF aa) (cV hg2)
 ·intro hg2
  refine ar aa (.on aa aa (ai hg2)) aa (ar aa (.on aa aa (ai hg2)) aa (ar aa (.on aa aa (ai hg2)) aa (kPv (aL aa hg2 aa) aa ?_)))
  exact ba aa (aF aa) (cW hg2)
 refine kPm aa aa ?_
 apply dr (tp:=31) (t:=27) (σ1:=[(27,_),(0,_)]) 4 rfl ⟨rfl,rfl,trivial⟩
 ·intro hg3
  refine aq aa (ap aa) (.on aa aa (ah hg3)) aa aa (aE aa (aA call118 aa) (bU (q:=aG) (fun Fr=>ma _ Fr _ _)) (.on aa aa (ah hg3)) aa aa ?_)
  refine aq aa (an aa aa aa) (.on aa aa (ah hg3)) aa aa (kPv (aH aa hg3 aa) aa ?_)
  exact ba aa ⟨rfl,rfl,trivial⟩ (cV hg3)
 ·intro hg3
  refine ar aa (.on aa aa (ai hg3)) aa (ar aa (.on aa aa (ai hg3)) aa (ar aa (.on aa aa (ai hg3)) aa (kPv (aL aa hg3 aa) aa ?_)))
  exact ba aa ⟨rfl,rfl,trivial⟩ (cW hg3)
 refine kPa aa aa (ad (az ?_))
 exact ax results219 aa (fun w hw=>⟨rfl,hw.tail.tail⟩)
theorem gR:bC ⟨3,1,8⟩:=⟨by decide,by decide,by decide,by decide,by decide,by decide⟩
def eR(w r:Int):Int:=sC .or .u64 (sC .or .u64 12754194144713244672 (IntKind.u64.wrap (IntKind.u64.wrap r*2 ^ min (32:Int).toNat IntKind.u64.bits))) (IntKind.u64.wrap w)
def lA(w r:Int):Int:=if 0≤w∧w≤64∧0≤r∧r≤w then 0 else 5
def tM(w:Int):Int:=IntKind.i64.wrap (IntKind.u32.wrap w)
def tN(w:Int):Int:=IntKind.i64.wrap (sC .and .u64 (w.fdiv (2 ^ min (32:Int).toNat IntKind.u64.bits)) 16777215)
def unp(w:Int):Int×Int×Bool:=if lA (tM w) (tN w)=0∧eR (tM w) (tN w)=w then (tM w,tN w,true) else (0,0,false)
theorem Ag(B:World)(H:List HP):
 ∀ w,Holds B H w→Calls Tryz.prog 218 [].toArray w (bB B H (.bool true)):=by
 refine au func218 aa ntmps218 aa (ac (ab (kPa aa aa (ad (ac (ac (ab (aE aa (aA call219 aa) (Ah _ _) .free aa aa ?_))))))))
 refine kPv (bF aa) aa (ad (cf aa (rfl) (ay (ac (ab (kPv (aZ aa (eh _ _ _ aa aa aa)) aa (aC aa (aN zeroValue40 aa) .free aa aa ?_)))))))
 rintro _ _ ⟨b1,rfl,rfl⟩
 refine aD aa (aI (vs:=_) sizeOf40 aa aa aa aa aa) .free aa ?_
 rintro _ _ rfl
 refine ad (ac (ab (kPv (am isAgg40 sizeOf40 aa aa) aa ?_)))
 refine aE aa (aA call129 aa) (rQ _ _ ⟨3,1,8⟩) .free aa aa ?_
 refine kPv (an aa aa aa) aa (kPm aa aa ?_)
 apply dr (tp:=12) (t:=8) (σ1:=[(8,_),(1,_),(0,_)]) 4 rfl (aF rfl)
 ·intro hg1
  refine aq aa (am isAgg40 sizeOf40 aa aa) (.on aa aa (ah hg1)) aa aa ?_
  refine aE aa (aA call117 aa) (gI _ _ ⟨3,1,8⟩ gR) (.on aa aa (ah hg1)) aa aa ?_
  refine aq aa (an aa aa aa) (.on aa aa (ah hg1)) aa aa (kPv (aH aa hg1 aa) aa ?_)
  exact ba aa (aF aa) (cV hg1)
 ·intro hg1
  refine ar aa (.on aa aa (ai hg1)) aa (ar aa (.on aa aa (ai hg1)) aa (ar aa (.on aa aa (ai hg1)) aa (kPv (aL aa hg1 aa) aa ?_)))
  exact ba aa (aF aa) (cW hg1)
 refine kPm aa aa ?_
 apply dr (tp:=17) (t:=13) (σ1:=[(13,_),(1,_),(0,_)]) 4 rfl (aF rfl)
 ·intro hg2
  refine aq aa (am isAgg40 sizeOf40 aa aa) (.on aa aa (ah hg2)) aa aa ?_
  refine aE aa (aA call140 aa) (lh _ _ ⟨3,1,8⟩ gR _ (by omega) (by omega)) (.on aa aa (ah hg2)) aa aa ?_
  refine aq aa (an aa aa aa) (.on aa aa (ah hg2)) aa aa (kPv (aH aa hg2 aa) aa ?_)
  exact ba aa (aF aa) (cV hg2)
 ·intro hg2
  refine ar aa (.on aa aa (ai hg2)) aa (ar aa (.on aa aa (ai hg2)) aa (ar aa (.on aa aa (ai hg2)) aa (kPv (aL aa hg2 aa) aa ?_)))
  exact ba aa (aF aa) (cW hg2)
 refine kPm aa aa ?_
 apply dr (tp:=22) (t:=18) (σ1:=[(18,_),(0,_)]) 4 rfl ⟨rfl,rfl,trivial⟩
 ·intro hg3
  refine aq aa (am isAgg40 sizeOf40 aa aa) (.on aa aa (ah hg3)) aa aa ?_
  refine aE aa (aA call108 aa) (kv _ _ ⟨3,1,8⟩ gR) (.on aa aa (ah hg3)) aa aa ?_
  refine aq aa (an aa aa aa) (.on aa aa (ah hg3)) aa aa (kPv (aH aa hg3 aa) aa ?_)
  exact ba aa ⟨rfl,rfl,trivial⟩ (cV hg3)
 ·intro hg3
  refine ar aa (.on aa aa (ai hg3)) aa (ar aa (.on aa aa (ai hg3)) aa (ar aa (.on aa aa (ai hg3)) aa (kPv (aL aa hg3 aa) aa ?_)))
  exact ba aa ⟨rfl,rfl,trivial⟩ (cW hg3)
 refine kPa aa aa (ad (az ?_))
 exact ax results218 aa (fun w hw=>⟨vd (by decide+kernel),hw.tail⟩)
theorem tu(B:World)(H:List HP)(x r:Int):
 ∀ w,Holds B H w→Calls Tryz.prog 113 [.agg #[i64 x,i64 r]].toArray w (bB B H (i64 (lA x r))):=by
 refine au func113 aa ntmps113 aa (ac (ab (aC aa (bx aa) .free aa aa ?_)))
 rintro _ _ ⟨b1,rfl,rfl⟩
 refine kPa aa aa (ad (ac (ac (ab (kPv (aj (m:=_) fp aa aa) aa (kPv (ae isAgg3 aa aa) aa (kPv (an aa aa aa) aa (kPm aa aa ?_))))))))
 apply gl (tp:=10) (t:=6) (σ1:=[(6,_),(2,_),(1,_)]) 4 rfl (aF rfl)
 ·intro hg1
  refine aq aa (aj (m:=_) fp aa aa) (.on aa aa (ah hg1)) aa aa (aq aa (ae isAgg3 aa aa) (.on aa aa (ah hg1)) aa aa (aq aa (an aa aa aa) (.on aa aa (ah hg1)) aa aa (kPv (aL aa hg1 aa) aa ?_)))
  exact ba aa (aF aa) (eZ hg1)
 ·intro hg1
  refine ar aa (.on aa aa (ai hg1)) aa (ar aa (.on aa aa (ai hg1)) aa (ar aa (.on aa aa (ai hg1)) aa (kPv (aH aa hg1 aa) aa ?_)))
  exact ba aa (aF aa) (eY hg1)
 refine kPm aa aa ?_
 apply gl (tp:=15) (t:=11) (σ1:=[(11,_),(2,_),(1,_)]) 4 rfl (aF rfl)
 ·intro hg2
  refine aq aa (aj (m:=_) fP aa aa) (.on aa aa (ah hg2)) aa aa (aq aa (ae isAgg3 aa aa) (.on aa aa (ah hg2)) aa aa (aq aa (an aa aa aa) (.on aa aa (ah hg2)) aa aa (kPv (aL aa hg2 aa) aa ?_)))
  exact ba aa (aF aa) (eZ hg2)
 ·intro hg2
  refine ar aa (.on aa aa (ai hg2)) aa (ar aa (.on aa aa (ai hg2)) aa (ar aa (.on aa aa (ai hg2)) aa (kPv (aH aa hg2 aa) aa ?_)))
  exact ba aa (aF aa) (eY hg2)
 refine kPm aa aa ?_
 apply gl (tp:=22) (t:=16) (σ1:=[(16,_),(2,_)]) 6 rfl ⟨rfl,rfl,trivial⟩
 ·intro hg3
  refine aq aa (aj (m:=_) fP aa aa) (.on aa aa (ah hg3)) aa aa (aq aa (ae isAgg3 aa aa) (.on aa aa (ah hg3)) aa aa (aq aa (aj (m:=_) fp aa aa) (.on aa aa (ah hg3)) aa aa (aq aa (ae isAgg3 aa aa) (.on aa aa (ah hg3)) aa aa (aq aa (an aa aa aa) (.on aa aa (ah hg3)) aa aa (kPv (aL aa hg3 aa) aa ?_)))))
  exact ba aa ⟨rfl,rfl,trivial⟩ (eZ hg3)
 ·intro hg3
  refine ar aa (.on aa aa (ai hg3)) aa (ar aa (.on aa aa (ai hg3)) aa (ar aa (.on aa aa (ai hg3)) aa (ar aa (.on aa aa (ai hg3)) aa (ar aa (.on aa aa (ai hg3)) aa (kPv (aH aa hg3 aa) aa ?_)))))
  exact ba aa ⟨rfl,rfl,trivial⟩ (eY hg3)
 refine ad ?_
 refine aW aa (fun h22=> ?_) (fun h22=> ?_)
 ·try simp only[decide_eq_true_eq,decide_eq_false_iff_not,Bool.not_eq_true',Bool.not_eq_false',Bool.or_eq_true,Bool.and_eq_true,Bool.and_eq_false_iff,Bool.or_eq_false_iff,beq_iff_eq,bne_iff_ne,beq_eq_false_iff_ne,bne_eq_false_iff_eq,ge_iff_le,gt_iff_lt,ne_eq] at h22
  refine ac (ab (kPa aa aa (ad (az ?_))))
  exact ax results113 aa (fun w hw=>⟨by unfold lA;rw[if_neg (by omega)],hw.tail⟩)
 ·try simp only[decide_eq_true_eq,decide_eq_false_iff_not,Bool.not_eq_true',Bool.not_eq_false',Bool.or_eq_true,Bool.and_eq_true,Bool.and_eq_false_iff,Bool.or_eq_false_iff,beq_iff_eq,bne_iff_ne,beq_eq_false_iff_ne,bne_eq_false_iff_eq,ge_iff_le,gt_iff_lt,ne_eq] at h22
  refine ay (ac (ab (kPa aa aa (ad (az ?_)))))
  exact ax results113 aa (fun w hw=>⟨by unfold lA;rw[if_pos (by omega)],hw.tail⟩)
theorem rj(B:World)(H:List HP)(x r:Int):
 ∀ w,Holds B H w→Calls Tryz.prog 116 [.agg #[i64 x,i64 r]].toArray w (bB B H (w64 (eR x r))):=by
 refine au func116 aa ntmps116 aa (ac (ab (aC aa (bx aa) .free aa aa ?_)))
 rintro _ _ ⟨b1,rfl,rfl⟩
 refine kPa aa aa (ad (ac (ab (kPv (aj (m:=_) fP aa aa) aa (kPv (ae isAgg3 aa aa) aa (kPv (bP runUnderlying3 runUnderlying26 aa) aa ?_))))))
 first | refine aq rfl (xy rfl rfl (by decide) rfl) .free rfl rfl ?_ | refine aq rfl (xy rfl rfl (by omega) rfl) .free rfl rfl ?_
 refine kPv (BL aa aa aa) aa (kPv (aj (m:=_) fp aa aa) aa (kPv (ae isAgg3 aa aa) aa (kPv (bP runUnderlying3 runUnderlying26 aa) aa (kPv (BL aa aa aa) aa (kPa aa aa (ad (ao [2] rfl (az ?_))))))))
 exact ax results116 aa (fun w hw=>⟨rfl,hw.tail⟩)
theorem fB(B:World)(H:List HP)(x r:Int)(h:0≤x∧x≤1000000):
 ∀ w,Holds B H w→Calls Tryz.prog 114 [.agg #[i64 x,i64 r]].toArray w (bB B H (i64 (x+1))):=by
 refine au func114 aa ntmps114 aa (ac (ab (aC aa (bx aa) .free aa aa ?_)))
 rintro _ _ ⟨b1,rfl,rfl⟩
 refine kPa aa aa (ad (ac (ab (kPv (aj (m:=_) fp aa aa) aa (kPv (ae isAgg3 aa aa) aa (kPv (aS aa aa) aa (kPa aa aa (ad (az ?_)))))))))
 exact ax results114 aa (fun w hw=>⟨rfl,hw.tail⟩)
theorem j0(B:World)(H:List HP)(v:Int):
 ∀ w,Holds B H w→Calls Tryz.prog 158 [w64 v].toArray w (bB B H (.tuple #[.agg #[i64 (unp v).1,i64 (unp v).2.1],.bool (unp v).2.2])):=by
 refine au func158 aa ntmps158 aa (ac (ab (aC aa (aN zeroValue38 aa) .free aa aa ?_)))
 rintro _ _ ⟨b2,rfl,rfl⟩
 refine kPa aa aa (ad (ac (ab (kPm aa aa (kPv (dh runUnderlying26 runUnderlying228 aa aa) aa (kPv (bP runUnderlying228 runUnderlying3 aa) aa (kPm aa aa ?_)))))))
 first | refine aq rfl (BK rfl rfl (by decide) rfl) .free rfl rfl ?_ | refine aq rfl (BK rfl rfl (by omega) rfl) .free rfl rfl ?_
 refine kPv (ux aa aa aa) aa (kPv (bP runUnderlying26 runUnderlying3 aa) aa (kPv (aZ aa (mX _ _ aa aa)) aa (aC aa (aN zeroValue38 aa) .free aa aa ?_)))
 rintro _ _ ⟨b4,rfl,rfl⟩
 refine aD aa (aI (vs:=_) sizeOf38 aa aa aa aa aa) .free aa ?_
 rintro _ _ rfl
 refine ad (ao [4,3,2,0] rfl (ac (ac (ab (kPv (am isAgg38 sizeOf38 aa aa) aa ?_)))))
 refine aE aa (aA call113 aa) (tu _ _ (tM v) (tN v)) .free aa aa ?_
 refine kPv (an aa aa aa) aa (kPm aa aa ?_)
 apply gl (tp:=21) (t:=16) (σ1:=[(16,_),(4,_),(3,_),(2,_)]) 5 rfl (aF rfl)
 ·intro hg1
  refine aq aa (am isAgg38 sizeOf38 aa aa) (.on aa aa (ah hg1)) aa aa ?_
  refine aE aa (aA call116 aa) (rj _ _ (tM v) (tN v)) (.on aa aa (ah hg1)) aa aa ?_
  refine aq aa (ap aa) (.on aa aa (ah hg1)) aa aa (aq aa (an aa aa aa) (.on aa aa (ah hg1)) aa aa (kPv (aL aa hg1 aa) aa ?_))
  exact ba aa (aF aa) (eZ hg1)
 ·intro hg1
  refine ar aa (.on aa aa (ai hg1)) aa (ar aa (.on aa aa (ai hg1)) aa (ar aa (.on aa aa (ai hg1)) aa (ar aa (.on aa aa (ai hg1)) aa (kPv (aH aa hg1 aa) aa ?_))))
  exact ba aa (aF aa) (eY hg1)
 refine ad ?_
 refine aW aa (fun h21=> ?_) (fun h21=> ?_)
 ·have hbad:¬ (lA (tM v) (tN v)=0∧eR (tM v) (tN v)=v):=by
   rintro⟨q1,q2⟩
   rw[q1,q2] at h21;simp at h21
  refine ac (ab (kPv (aZ aa (B5)) aa (aD aa (aI (vs:=_) sizeOf38 aa aa aa aa aa) .free aa ?_)))
  rintro _ _ rfl
  refine kPa aa aa (ad (az ?_))
  exact iR results158 (.cellA aa isAgg38 sizeOf38 aa aa) (.tmp aa) (fun w hw=>⟨by unfold unp;rw[if_neg hbad];rfl,hw.tail.tail⟩)
 ·have hgd:lA (tM v) (tN v)=0∧eR (tM v) (tN v)=v:=by simpa using h21
  refine ay (ac (ab (kPv (am isAgg38 sizeOf38 aa aa) aa ?_)))
  refine aD aa (aI (vs:=_) sizeOf38 aa aa aa aa aa) .free aa ?_
  rintro _ _ rfl
  refine kPa aa aa (ad (az ?_))
  exact iR results158 (.cellA aa isAgg38 sizeOf38 aa aa) (.tmp aa) (fun w hw=>⟨by unfold unp;rw[if_pos hgd];rfl,hw.tail.tail⟩)
theorem Af(B:World)(H:List HP):
 ∀ w,Holds B H w→Calls Tryz.prog 217 [].toArray w (bB B H (.bool true)):=by
 refine au func217 aa ntmps217 aa (ac (ab (kPa aa aa (ad (ac (ac (ab (aE aa (aA call218 aa) (Ag _ _) .free aa aa ?_))))))))
 refine kPv (bF aa) aa (ad (cf aa (rfl) (ay (ac (ab (aE aa (aA call158 aa) (j0 _ _ _) .free aa aa ?_))))))
 refine kPm aa aa (kPv (aB aa aa) aa (kPv (aB aa aa) aa (aC aa (aN zeroValue38 aa) .free aa aa ?_)))
 rintro _ _ ⟨b1,rfl,rfl⟩
 refine aD aa (aI (vs:=_) sizeOf38 aa aa aa aa aa) .free aa ?_
 rintro _ _ rfl
 refine kPa aa aa (ad (ac (ab (kPm aa aa (kPm aa aa ?_)))))
 apply dr (tp:=14) (t:=10) (σ1:=[(10,_),(1,_),(0,_)]) 4 rfl (aF rfl)
 ·intro hg1
  refine aq aa (aj (m:=_) fp aa aa) (.on aa aa (ah hg1)) aa aa (aq aa (ae isAgg3 aa aa) (.on aa aa (ah hg1)) aa aa (aq aa (an aa aa aa) (.on aa aa (ah hg1)) aa aa (kPv (aH aa hg1 aa) aa ?_)))
  exact ba aa (aF aa) (cV hg1)
 ·intro hg1
  refine ar aa (.on aa aa (ai hg1)) aa (ar aa (.on aa aa (ai hg1)) aa (ar aa (.on aa aa (ai hg1)) aa (kPv (aL aa hg1 aa) aa ?_)))
  exact ba aa (aF aa) (cW hg1)
 refine kPm aa aa ?_
 apply dr (tp:=19) (t:=15) (σ1:=[(15,_),(1,_),(0,_)]) 4 rfl (aF rfl)
 ·intro hg2
  refine aq aa (aj (m:=_) fP aa aa) (.on aa aa (ah hg2)) aa aa (aq aa (ae isAgg3 aa aa) (.on aa aa (ah hg2)) aa aa (aq aa (an aa aa aa) (.on aa aa (ah hg2)) aa aa (kPv (aH aa hg2 aa) aa ?_)))
  exact ba aa (aF aa) (cV hg2)
 ·intro hg2
  refine ar aa (.on aa aa (ai hg2)) aa (ar aa (.on aa aa (ai hg2)) aa (ar aa (.on aa aa (ai hg2)) aa (kPv (aL aa hg2 aa) aa ?_)))
  exact ba aa (aF aa) (cW hg2)
 refine kPm aa aa ?_
 apply dr (tp:=24) (t:=20) (σ1:=[(20,_),(1,_),(0,_)]) 4 rfl (aF rfl)
 ·intro hg3
  refine aq aa (am isAgg38 sizeOf38 aa aa) (.on aa aa (ah hg3)) aa aa ?_
  refine aE aa (aA call114 aa) (fB _ _ _ _ ⟨by decide,by decide⟩) (.on aa aa (ah hg3)) aa aa ?_
  refine aq aa (an aa aa aa) (.on aa aa (ah hg3)) aa aa (kPv (aH aa hg3 aa) aa ?_)
  exact ba aa (aF aa) (cV hg3)
 ·intro hg3
  refine ar aa (.on aa aa (ai hg3)) aa (ar aa (.on aa aa (ai hg3)) aa (ar aa (.on aa aa (ai hg3)) aa (kPv (aL aa hg3 aa) aa ?_)))
  exact ba aa (aF aa) (cW hg3)
 refine kPm aa aa ?_
 apply dr (tp:=29) (t:=25) (σ1:=[(25,_),(0,_)]) 4 rfl ⟨rfl,rfl,trivial⟩
 ·intro hg4
  refine aq aa (am isAgg38 sizeOf38 aa aa) (.on aa aa (ah hg4)) aa aa ?_
  refine aE aa (aA call116 aa) (rj _ _ _ _) (.on aa aa (ah hg4)) aa aa ?_
  refine aq aa (an aa aa aa) (.on aa aa (ah hg4)) aa aa (kPv (aH aa hg4 aa) aa ?_)
  exact ba aa ⟨rfl,rfl,trivial⟩ (cV hg4)
 ·intro hg4
  refine ar aa (.on aa aa (ai hg4)) aa (ar aa (.on aa aa (ai hg4)) aa (ar aa (.on aa aa (ai hg4)) aa (kPv (aL aa hg4 aa) aa ?_)))
  exact ba aa ⟨rfl,rfl,trivial⟩ (cW hg4)
 refine kPa aa aa (ad (az ?_))
 exact ax results217 aa (fun w hw=>⟨vd (by decide+kernel),hw.tail⟩)
def cO(s:Dev)(j:Nat):Int:=IntKind.i64.wrap (s.load (1+(j:Int)))
def Dev.readC(s:Dev):Cfg×Int:=
 if s.load 0≠ig then (⟨0,0,0⟩,7)
 else if 4096<s.load 1∨4096<s.load 2∨4096<s.load 3 then (⟨0,0,0⟩,1)
 else if ¬ bC ⟨cO s 0,cO s 1,cO s 2⟩∨(s.n:Int)≠Cfg.words ⟨cO s 0,cO s 1,cO s 2⟩ then (⟨0,0,0⟩,1)
 else (⟨cO s 0,cO s 1,cO s 2⟩,0)
def wR(s:Dev)(k:Nat):List Value:=tab 3 fun j=>i64 (if j<k then cO s j else 0)
theorem AE{s:Dev}{k:Nat}{x:Int}(h:x=cO s k):(wR s k).set k (i64 x)=wR s (k+1):=by
 subst h
 unfold wR
 rw[pF]
 refine gt fun j _=> ?_
 simp only[upd]
 by_cases e:j=k
 ·subst e;simp
 ·rw[if_neg e]
  by_cases e2:j<k
  ·rw[if_pos e2,if_pos (by omega)]
  ·rw[if_neg e2,if_neg (by omega)]
theorem qI{s:Dev}{k:Nat}(h:k<3):(wR s 3)[k]? =some (i64 (cO s k)):=by
 unfold wR;rw[eG h,if_pos h]
theorem tZ(B:World)(Fr:List HP)(b:Nat)(s:Dev):
 ∀ w,Holds B (aG b s::Fr) w→Calls Tryz.prog 63 [ptr b].toArray w (bB B (aG b s::Fr) (.tuple #[eO s.readC.1,i64 s.readC.2])):=by
 refine au func63 aa ntmps63 aa ?_
 generalize hres:s.readC=res
 refine ac (ab (aC aa (aN zeroValue40 aa) .free aa aa ?_))
 rintro _ _ ⟨b2,rfl,rfl⟩
 refine kPa aa aa (ad (ac (ac (ab (kPm aa aa (aE aa (aA call71 aa) (bU (q:=aG) (fun Fr=>cH _ Fr _ _ _)) .free aa aa ?_))))))
 refine kPv (an aa aa aa) aa (ad ?_)
 refine aW aa (fun h10=> ?_) (fun h10=> ?_)
 ·try simp only[decide_eq_true_eq,decide_eq_false_iff_not,Bool.not_eq_true',Bool.not_eq_false',Bool.or_eq_true,Bool.and_eq_true,Bool.and_eq_false_iff,Bool.or_eq_false_iff,beq_iff_eq,bne_iff_ne,beq_eq_false_iff_ne,bne_eq_false_iff_eq,ge_iff_le,gt_iff_lt,ne_eq] at h10
  refine ac (ab (kPv (aZ aa (xF)) aa (aD aa (aI (vs:=_) sizeOf40 aa aa aa aa aa) .free aa ?_)))
  rintro _ _ rfl
  refine kPa aa aa (ad (az ?_))
  exact iR results63 (.cellA aa isAgg40 sizeOf40 aa aa) (.tmp aa) (fun w hw=>⟨by rw[←hres];unfold Dev.readC;rw[if_pos (by simpa [ig] using h10)];rfl,hw.tail⟩)
 ·try simp only[decide_eq_true_eq,decide_eq_false_iff_not,Bool.not_eq_true',Bool.not_eq_false',Bool.or_eq_true,Bool.and_eq_true,Bool.and_eq_false_iff,Bool.or_eq_false_iff,beq_iff_eq,bne_iff_ne,beq_eq_false_iff_ne,bne_eq_false_iff_eq,ge_iff_le,gt_iff_lt,ne_eq] at h10
  refine ay (ac (ab (aC aa (aN zeroValue169 aa) .free aa aa ?_)))
  rintro _ _ ⟨b4,rfl,rfl⟩
  refine ad (ac (ac (ab (kPm aa aa (ad (aO (dY (ι:=Nat) (fun k=>k≤3∧∀ j:Nat,j<k→s.load (1+(j:Int))≤4096) (fun k=>[(0,ptr b),(2,ptr b2),(3,i64 0),(4,ptr b4),(12,i64 k)]) (fun k=>row b4 (wR s k) 169::row b2 [i64 0,i64 0,i64 0] 40::aG b s::Fr) (fun k=>3 - k) 0 ⟨Nat.zero_le _,fun j h=>absurd h (Nat.not_lt_zero _)⟩ (fun a w st=>st.to ⟨rfl,rfl,rfl,rfl,rfl,trivial⟩ id) ?_)))))))
  rintro k ⟨hk1,hk2⟩
  refine ac (ab (kPv (an aa aa aa) aa (ad (ac ?_))))
  refine aW aa (fun h13=> ?_) (fun h13=> ?_)
  ·have hk3:k<3:=by simp at h13;omega
   refine ay (ac (aO (ac (ab (kPm aa aa (kPa aa aa (ad (ac (ab (kPm aa aa (kPm aa aa ?_)))))))))))
   refine kPv (aS aa aa) aa (aE aa (aA call71 aa) (bU (q:=aG) (fun Fr=>cH _ Fr _ _ _)) .free aa aa ?_)
   refine kPa aa aa (ad (ao [6,5,12,4,3,2,0] rfl (ac (ac (ab (kPm aa aa (kPv (an aa aa aa) aa (ad ?_))))))))
   refine aW aa (fun h20=> ?_) (fun h20=> ?_)
   ·try simp only[decide_eq_true_eq,decide_eq_false_iff_not,Bool.not_eq_true',Bool.not_eq_false',Bool.or_eq_true,Bool.and_eq_true,Bool.and_eq_false_iff,Bool.or_eq_false_iff,beq_iff_eq,bne_iff_ne,beq_eq_false_iff_ne,bne_eq_false_iff_eq,ge_iff_le,gt_iff_lt,ne_eq] at h20
    refine ac (ab (kPv (aZ aa (xF)) aa (aD aa (aI (vs:=_) sizeOf40 aa aa aa aa aa) .free aa ?_)))
    rintro _ _ rfl
    refine kPa aa aa (ad (az ?_))
    exact iR results63 (.cellA aa isAgg40 sizeOf40 aa aa) (.tmp aa) (fun w hw=>⟨by
   rw[←hres];unfold Dev.readC;rw[if_neg (by simpa [ig] using h10),if_pos (by
    rcases (by omega:k=0∨k=1∨k=2) with rfl | rfl | rfl
    ·left;exact h20
    ·right;left;exact h20
    ·right;right;exact h20)];rfl,hw.tail.tail⟩)
   ·try simp only[decide_eq_true_eq,decide_eq_false_iff_not,Bool.not_eq_true',Bool.not_eq_false',Bool.or_eq_true,Bool.and_eq_true,Bool.and_eq_false_iff,Bool.or_eq_false_iff,beq_iff_eq,bne_iff_ne,beq_eq_false_iff_ne,bne_eq_false_iff_eq,ge_iff_le,gt_iff_lt,ne_eq] at h20
    refine ay (ab (kPm aa aa (kPm aa aa (kPv (bP runUnderlying26 runUnderlying3 aa) aa (kPv (rM (m:=k) runUnderlying169 sizeOf3 aa aa (by omega) (by omega) (by omega)) aa (aD aa (aR sizeOf3 aa aa aa (by rw[Nat.blt_eq];simp[wR,bu];omega)) .free aa ?_))))))
    rintro _ _ rfl
    refine ad (ao [12,4,3,2,0] rfl (ab (kPv (aS aa aa) aa (kPm aa aa (ad ?_)))))
    exact fun a w st=>⟨k+1,⟨by omega,fun j hj=>by
     rcases Nat.lt_succ_iff_lt_or_eq.1 hj with h | h
     ·exact hk2 j h
     ·subst h;omega⟩,by omega,st.to ⟨rfl,rfl,rfl,rfl,rfl,trivial⟩ (fun hh=>by rw[show(Value.int IntKind.i64 (IntKind.i64.wrap (s.load (1+(k:Int)))))=i64 (cO s k) from rfl,AE rfl] at hh;exact hh)⟩
  ·have hk3:¬ k<3:=by simp at h13;omega
   obtain rfl:k=3:=by omega
   have hb0:s.load 1≤4096:=hk2 0 (by decide)
   have hb1:s.load 2≤4096:=hk2 1 (by decide)
   have hb2:s.load 3≤4096:=hk2 2 (by decide)
   refine bT (ac (ab (kPv (rM (m:=0) runUnderlying169 sizeOf3 aa aa (by decide) (by decide) (by decide)) aa (kPv (ae (v:=i64 (cO s 0)) isAgg3 aa (qI (by decide))) aa (kPv (rM (m:=1) runUnderlying169 sizeOf3 aa aa (by decide) (by decide) (by decide)) aa (kPv (ae (v:=i64 (cO s 1)) isAgg3 aa (qI (by decide))) aa (kPv (rM (m:=2) runUnderlying169 sizeOf3 aa aa (by decide) (by decide) (by decide)) aa (kPv (ae (v:=i64 (cO s 2)) isAgg3 aa (qI (by decide))) aa (kPv (aZ aa (eh _ _ _ aa aa aa)) aa (aC aa (aN zeroValue40 aa) .free aa aa ?_))))))))))
   rintro _ _ ⟨b7,rfl,rfl⟩
   refine aD aa (aI (vs:=_) sizeOf40 aa aa aa aa aa) .free aa ?_
   rintro _ _ rfl
   refine ad (ao [7,3,2,0] rfl (ac (ac (cK Tryz.mixed (by kernel_rfl) (by kernel_rfl) ?_))))
   refine kQv (am isAgg40 sizeOf40 aa aa) aa ?_
   refine bH aa (aA call129 aa) (rQ _ _ ⟨cO s 0,cO s 1,cO s 2⟩) .free aa ?_
   refine kQv (an aa aa aa) aa (kQm aa aa ?_)
   apply AM (tp:=43) (t:=37) (σ1:=[(37,_),(7,_),(3,_),(2,_)]) 6 rfl (aF rfl)
   ·intro hg1
    refine bA aa (ap aa) (.on aa aa (ah hg1)) aa (bH aa (aA call118 aa) (bU (q:=aG) (fun Fr=>ma _ Fr _ _)) (.on aa aa (ah hg1)) aa ?_)
    refine bA aa (am isAgg40 sizeOf40 aa aa) (.on aa aa (ah hg1)) aa ?_
    refine bH aa (aA call108 aa) (kv _ _ ⟨cO s 0,cO s 1,cO s 2⟩ (DT hg1)) (.on aa aa (ah hg1)) aa ?_
    refine bA aa (an aa aa aa) (.on aa aa (ah hg1)) aa (kQv (aL aa hg1 aa) aa ?_)
    exact eu aa (aF aa) (eZ hg1)
   ·intro hg1
    refine bf aa (.on aa aa (ai hg1)) aa (bf aa (.on aa aa (ai hg1)) aa (bf aa (.on aa aa (ai hg1)) aa (bf aa (.on aa aa (ai hg1)) aa (bf aa (.on aa aa (ai hg1)) aa (kQv (aH aa hg1 aa) aa ?_)))))
    exact eu aa (aF aa) (eY hg1)
   refine bR ?_
   refine aW aa (fun h43=> ?_) (fun h43=> ?_)
   ·have hbad:¬ bC ⟨cO s 0,cO s 1,cO s 2⟩∨(s.n:Int)≠Cfg.words ⟨cO s 0,cO s 1,cO s 2⟩:=by
     by_cases q:bC ⟨cO s 0,cO s 1,cO s 2⟩
     ·right;simpa [chk,q] using h43
     ·exact .inl q
    refine ac (ab (kPv (aZ aa (xF)) aa (aD aa (aI (vs:=_) sizeOf40 aa aa aa aa aa) .free aa ?_)))
    rintro _ _ rfl
    refine kPa aa aa (ad (az ?_))
    exact iR results63 (.cellA aa isAgg40 sizeOf40 aa aa) (.tmp aa) (fun w hw=>⟨by rw[←hres];unfold Dev.readC;rw[if_neg (by simpa [ig] using h10),if_neg (by omega),if_pos hbad];rfl,hw.tail.tail.tail⟩)
   ·have hgd:¬ (¬ bC ⟨cO s 0,cO s 1,cO s 2⟩∨(s.n:Int)≠Cfg.words ⟨cO s 0,cO s 1,cO s 2⟩):=by
     by_cases q:bC ⟨cO s 0,cO s 1,cO s 2⟩
     ·simp[chk,q] at h43;simp[q,h43]
     ·simp[chk,q] at h43
    refine ay (ac (ab (kPv (am isAgg40 sizeOf40 aa aa) aa ?_)))
    refine aD aa (aI (vs:=_) sizeOf40 aa aa aa aa aa) .free aa ?_
    rintro _ _ rfl
    refine kPa aa aa (ad (az ?_))
    exact iR results63 (.cellA aa isAgg40 sizeOf40 aa aa) (.tmp aa) (fun w hw=>⟨by rw[←hres];unfold Dev.readC;rw[if_neg (by simpa [ig] using h10),if_neg (by omega),if_neg hgd];rfl,hw.tail.tail.tail⟩)
def okB{α:Type}(m:Out α)(p:α→Dev→Bool):Bool:=match m with
 | .ok a s=>p a s
 | .off _=>false
theorem cE{α:Type}{m:Out α}{p:α→Dev→Bool}{a:α}{s:Dev}(h:okB m p=true)(e:m= .ok a s):p a s=true:=by rw[e] at h;exact h
theorem kO{α:Type}{m:Out α}{p:α→Dev→Bool}{s:Dev}(h:okB m p=true)(e:m= .off s):False:=by rw[e] at h;cases h
def o5{α:Type}(m:Out α)(p:α→Prop)(n:Nat):Prop:=∃ a s,m= .ok a s∧p a∧s.pow.lim<0∧s.n=n
theorem cT{α β:Type}{m:Out α}{f:α→Dev→Out β}{p:α→Prop}{q:β→Prop}{n:Nat}(h:o5 m p n)(g:∀ a s,p a→s.pow.lim<0→s.n=n→o5 (f a s) q n):o5 (m.then f) q n:=by
 obtain⟨a,s,rfl,h1,h2,h3⟩:=h
 exact g a s h1 h2 h3
theorem gn{s:Dev}{i v:Int}(h:s.pow.lim<0):o5 (s.store i v) (fun _=>True) s.n:=by
 unfold Dev.store
 split
 ·exact⟨_,_,rfl,trivial,h,rfl⟩
 ·rw[qO h];exact⟨_,_,rfl,trivial,h,rfl⟩
theorem jp{s:Dev}{i:Int}(h:s.pow.lim<0):o5 (s.flush i) (fun _=>True) s.n:=by
 unfold Dev.flush
 split
 ·exact⟨_,_,rfl,trivial,h,rfl⟩
 ·rw[qO h];exact⟨_,_,rfl,trivial,h,rfl⟩
theorem mR{s:Dev}(h:s.pow.lim<0):o5 s.fence (fun _=>True) s.n:=⟨(),_,nP h,trivial,h,rfl⟩
theorem oI(f:Int→Int):∀ (k:Nat) (i:Int) (s:Dev),s.pow.lim<0→o5 (fh f k i s) (fun _=>True) s.n
 | 0,_,s,h=>⟨(),s,rfl,trivial,h,rfl⟩
 | k+1,i,s,h=>cT (gn h) fun _ s1 _ h1 e1=>e1▸cT (jp h1) fun _ s2 _ h2 e2=>e2▸oI f k (i+1) s2 h2
theorem vL(l:List Int):∀ (k i:Nat) (s:Dev),s.pow.lim<0→o5 (st3 l k i s) (fun _=>True) s.n
 | 0,_,s,h=>⟨(),s,rfl,trivial,h,rfl⟩
 | k+1,i,s,h=>cT (gn h) fun _ s1 _ h1 e1=>e1▸vL l k (i+1) s1 h1
theorem pq{s:Dev}{c:Cfg}(h:s.pow.lim<0)(hc:bC c)(hn:(s.n:Int)=c.words):o5 (s.format c) (fun a=>a=0) s.n:=by
 unfold Dev.format
 rw[if_neg (c6 hc hn)]
 refine cT (gn h) fun _ s1 _ h1 e1=>(e1▸cT (jp h1) fun _ s2 _ h2 e2=>(e2▸cT (mR h2) fun _ s3 _ h3 e3=>(e3▸cT (vL _ _ _ _ h3) fun _ s4 _ h4 e4=>(e4▸cT (gn h4) fun _ s5 _ h5 e5=>(e5▸cT (jp h5) fun _ s6 _ h6 e6=>(e6▸cT (oI _ _ _ _ h6) fun _ s7 _ h7 e7=>(e7▸cT (oI _ _ _ _ h7) fun _ s8 _ h8 e8=>(e8▸cT (jp h8) fun _ s9 _ h9 e9=>(e9▸cT (mR h9) fun _ s10 _ h10 e10=>(e10▸cT (gn h10) fun _ s11 _ h11 e11=>(e11▸cT (jp h11) fun _ s12 _ h12 e12=> ?_)))))))))))
 refine e12▸cT (mR h12) fun _ s13 _ h13 e13=> ?_
 exact⟨0,s13,rfl,rfl,h13,e13⟩
def mM(xs:List Int)(j:Nat):Int:=if xs.length=0 then 0 else xs.getD (j%xs.length) 0
def jW(pa:Nat)(xs:List Int)(n:Nat):Dev:=⟨pa,⟨-1,0⟩,n,fun i=>(tab n (mM xs)).getD i 0,fun i=>(tab n (mM xs)).getD i 0,fun _=>none⟩
theorem words_b{c:Cfg}(h:bC c):40≤c.words∧c.words≤20000∧c.words%8=0:=by
 have h1:=h.act
 have:=h.r1;have:=h.r2;have:=h.l1;have:=h.l2;have:=h.s1;have:=h.s2
 have hl:=dU (n:=c.root c.roots) (by simp only[Cfg.root];omega)
 have hs:=dU (n:=c.space) (by omega)
 simp only[Cfg.words,Cfg.frm,Cfg.root] at*
 omega
def ry(xs:List Int)(n k:Nat):List Value:=tab n fun j=>w64 (if j<k then mM xs j else 0)
theorem BA{xs:List Int}{n k:Nat}{x:Int}(h:x=mM xs k):(ry xs n k).set k (w64 x)=ry xs n (k+1):=by
 subst h
 unfold ry
 rw[pF]
 refine gt fun j _=> ?_
 simp only[upd]
 by_cases e:j=k
 ·subst e;simp
 ·rw[if_neg e]
  by_cases e2:j<k
  ·rw[if_pos e2,if_pos (by omega)]
  ·rw[if_neg e2,if_neg (by omega)]
theorem tx{xs:List Int}{n k:Nat}(h:xs.length=0):ry xs n (k+1)=ry xs n k:=by
 refine gt fun j _=> ?_
 simp[mM,h]
theorem zR(xs:List Int)(n:Nat):List.replicate n (.int .u64 0)=ry xs n 0:=by
 apply List.ext_getElem?
 intro j
 by_cases h:j<n
 ·rw[ry,eG h];simp[h]
 ·rw[List.getElem?_eq_none (by simpa using h),List.getElem?_eq_none (by rw[ry,bu];omega)]
theorem BB(xs:List Int)(n:Nat):ry xs n n=(tab n (mM xs)).map w64:=by
 rw[na];exact gt fun j hj=>by rw[if_pos hj]
theorem Dq{pa N:Nat}{xs:List Int}(h:N%8=0):(⟨pa,⟨-1,0⟩,((tab N (mM xs)).length+7) / 8*8,fun i=>(tab N (mM xs)).getD i 0,fun i=>(tab N (mM xs)).getD i 0,fun _=>none⟩:Dev)=jW pa xs N:=by
 rw[bu,show(N+7) / 8*8=N by omega];rfl
theorem BE{pa N:Nat}{xs:List Int}{c:Cfg}{a:Int}{s:Dev}(hc:bC c)(hN:(N:Int)=c.words)(h:(jW pa xs N).format c= .ok a s):a=0:=by
 obtain⟨b,t,e,hb,_⟩:=pq (s:=jW pa xs N) (show(-1:Int)<0 by decide) hc hN
 rw[e] at h;cases h;exact hb
theorem Da{pa N:Nat}{xs:List Int}{c:Cfg}{s:Dev}(hc:bC c)(hN:(N:Int)=c.words)(h:(jW pa xs N).format c= .off s):False:=by
 obtain⟨b,t,e,hb,_⟩:=pq (s:=jW pa xs N) (show(-1:Int)<0 by decide) hc hN
 rw[e] at h;cases h
theorem eJ(B:World)(Fr:List HP)(c:Cfg)(hc:bC c)(q:Option Addr)(cap:Nat)(xs:List Int)(hx:xs.length≤100000)(hq:∀ i,i<xs.length→∃ b off,q=some ⟨b,off,none⟩)(hr:SlR B Fr (.slice q xs.length cap) (xs.map w64)):
 ∀ w,Holds B Fr w→Calls Tryz.prog 49 [eO c,.slice q xs.length cap].toArray w (Ret B (fun rv H'=>∃ (b pa N:Nat) (s':Dev),(N:Int)=c.words∧(jW pa xs N).format c= .ok 0 s'∧rv= .tuple #[ptr b,.bool true]∧H'=aG b s'::Fr) (fun _ _=>False)):=by
 refine au func49 aa ntmps49 aa ?_
 have hwb:=words_b hc
 obtain⟨N,hN⟩:∃ N:Nat,(N:Int)=c.words:=⟨c.words.toNat,by omega⟩
 refine ac (ab (aC aa (bx aa) .free aa aa ?_))
 rintro _ _ ⟨b2,rfl,rfl⟩
 refine kPa aa aa (kPa aa aa (ad (ac (ab (kPv (am isAgg40 sizeOf40 aa aa) aa ?_)))))
 refine aE aa (aA call108 aa) (kv _ _ c hc) .free aa aa ?_
 rw[←hN]
 refine aC aa (jO runUnderlying25 iy sizeOf26 zeroValue26 aa aa aa (by omega)) .free aa aa ?_
 rintro _ _ ⟨bl,rfl,rfl⟩
 rw[zR xs]
 refine kPa aa aa (ad (ac (ac (ab (kPm aa aa (kPv (bY aa runUnderlying25 ⟨_,rfl⟩ rfl) aa (kPm aa aa (ad (aO (dY (ι:=Nat) (fun k=>k≤N) (fun k=>[(1,.slice q xs.length cap),(2,ptr b2),(4,.pointer none),(5,.bool false),(6,.slice (some ⟨bl,0,none⟩) N N),(13,i64 N),(14,i64 k)]) (fun k=>row bl (ry xs N k) 26::row b2 [i64 c.log,i64 c.roots,i64 c.space] 40::Fr) (fun k=>N - k) 0 (Nat.zero_le _) (fun a w st=>st.to ⟨rfl,rfl,rfl,rfl,rfl,rfl,rfl,trivial⟩ id) ?_))))))))))
 intro k hk
 refine ac (ab (kPv (an aa aa aa) aa (ad (ac ?_))))
 refine aW aa (fun h15=> ?_) (fun h15=> ?_)
 ·have hkN:k<N:=by simp at h15;omega
  refine ay (ac (aO (ac (ab (kPm aa aa (kPa aa aa (ad (ao [7,14,13,6,5,4,2,1] rfl (ac (ab (kPm aa aa ?_)))))))))))
  refine kPv (bY aa runUnderlying25 ⟨_,rfl⟩ rfl) aa (kPv (an aa aa aa) aa (ad ?_))
  refine aW aa (fun h19=> ?_) (fun h19=> ?_)
  ·have hpos:0<xs.length:=by simp at h19;omega
   refine ab (kPm aa aa (kPm aa aa (kPm aa aa (kPm aa aa (kPm aa aa (kPv (bY aa runUnderlying25 ⟨_,rfl⟩ rfl) aa (kPv (im (c:=((k%xs.length:Nat):Int)) aa aa (by omega) (by rw[Int.tmod_eq_emod_of_nonneg (by omega)];omega)) aa ?_)))))))
   obtain⟨ob,oo,rfl⟩:=hq 0 hpos
   refine kPv (bZ runUnderlying25 sizeOf26 aa aa (by omega) (by have:=Nat.mod_lt k hpos;omega)) aa (kPv (bX (v:=w64 (mM xs k)) isAgg26 ((hr.cons _).cons _) aa (by have:=Nat.mod_lt k hpos;rw[Int.toNat_natCast];simp[mM,show ¬ xs.length=0 by omega,this,List.getD])) aa (kPv (bZ runUnderlying25 sizeOf26 aa aa (by omega) (by omega)) aa (aD aa (aR sizeOf26 aa aa aa (by rw[Nat.blt_eq,ry,bu];omega)) .free aa ?_)))
   rintro _ _ rfl
   rw[show 0+(k:Int).toNat=k by omega,BA rfl]
   refine ad (ao [14,13,6,5,4,2,1] rfl (ab (kPv (aS aa aa) aa (kPm aa aa (ad ?_)))))
   first
    | exact fun a w st=>⟨k+1,by omega,by omega,st.to ⟨rfl,rfl,rfl,rfl,rfl,rfl,rfl,trivial⟩ id⟩
    | exact fun a w st=>⟨k+1,by omega,by omega,st.to ⟨rfl,rfl,rfl,rfl,rfl,rfl,rfl,trivial⟩ (fun hh=>by rw[tx hz];exact hh)⟩
  ·have hz:xs.length=0:=by have:=of_decide_eq_false h19;omega
   refine ay (ab (kPv (aS aa aa) aa (kPm aa aa (ad ?_))))
   first
    | exact fun a w st=>⟨k+1,by omega,by omega,st.to ⟨rfl,rfl,rfl,rfl,rfl,rfl,rfl,trivial⟩ id⟩
    | exact fun a w st=>⟨k+1,by omega,by omega,st.to ⟨rfl,rfl,rfl,rfl,rfl,rfl,rfl,trivial⟩ (fun hh=>by rw[tx hz];exact hh)⟩
 ·have hkN:¬ k<N:=by simp at h15;omega
  have hkN2:k=N:=by omega
  rw[hkN2]
  refine bT (ac (ab (kPm aa aa (aQ aa (aA call109 aa) (uc _ _ _ (tab N (mM xs)) (by rw[bu];omega) (by rw[bu];omega) (SlR.row (by rw[List.drop_zero,BB,List.take_of_length_le (by rw[List.length_map,bu];omega)]) (by rw[List.length_map,bu]))) .free aa aa ?_))))
  rintro _ _ ⟨bd,pa,rfl,rfl⟩
  refine kPa aa aa (ad (ao [8,5,4,2] rfl (ac (ac (ab ?_)))))
  rw[Dq (by omega)]
  refine kPm aa aa (kPv (dq runUnderlying28 aa aa aa) aa (kPm aa aa (aq aa (ap aa) (.on aa aa (ah aa)) aa aa (aq aa (am isAgg40 sizeOf40 aa aa) (.on aa aa (ah aa)) aa aa ?_))))
  refine aY aa (aA call110 aa) (rA _ _ _ _ c) (.on aa aa (ah aa)) aa aa ?_ ?_
  rotate_left
  ·rintro _ _ ⟨s9,hm9,rfl,rfl⟩
   exact(Da hc hN hm9).elim
  rintro _ _ ⟨a,s1,hm1,rfl,rfl⟩
  refine aq aa (an aa aa aa) (.on aa aa (ah aa)) aa aa (kPv (aL aa aa aa) aa (ad (ao [40,8,5,4] rfl (cf aa (by have:=BE hc hN hm1;subst this;rfl) (ay (ac (ab (kPm aa aa (kPa aa aa (kPa aa aa (ad ?_)))))))))))
  refine az ?_
  exact bg results49 aa aa (fun w hh=>⟨_,⟨bd,pa,N,s1,rfl,by rw[←BE hc hN hm1];exact hm1,rfl,rfl⟩,(((hh.front 1 aa).tail).front 1 aa).tail⟩)
def d5(pa:Nat):Dev:=⟨pa,⟨-1,0⟩,56,fun i=>(List.replicate 56 (0:Int)).getD i 0,fun i=>(List.replicate 56 (0:Int)).getD i 0,fun _=>none⟩
set_option maxRecDepth 100000 in
theorem yW(pa:Nat):okB ((d5 pa).format ⟨3,1,8⟩) (fun a s=>a==0&&s.readC.1.log==3&&s.readC.1.roots==1&&s.readC.1.space==8&&s.readC.2==0&&(d5 pa).readC.2==7)=true:=by kernel_rfl
theorem Ae(B:World)(H:List HP):
 ∀ w,Holds B H w→Calls Tryz.prog 215 [].toArray w (bB B H (.bool true)):=by
 refine au func215 aa ntmps215 aa (ac (ab (kPa aa aa (ad (ac (ac (ab (aE aa (aA call217 aa) (Af _ _) .free aa aa ?_))))))))
 refine kPv (bF aa) aa (ad (cf aa (rfl) (ay (ac (ab (aC aa (jO (n:=56) runUnderlying25 iy sizeOf26 zeroValue26 aa aa aa (by omega)) .free aa aa ?_))))))
 rintro _ _ ⟨bl,rfl,rfl⟩
 refine aQ aa (aA call109 aa) (uc _ _ _ (List.replicate 56 0) (by decide) (by decide) (SlR.row (by simp[w64]) (by simp))) .free aa aa ?_
 rintro _ _ ⟨bd,pa,rfl,rfl⟩
 rw[show(⟨pa,⟨-1,0⟩,((List.replicate 56 (0:Int)).length+7) / 8*8,fun i=>(List.replicate 56 (0:Int)).getD i 0,fun i=>(List.replicate 56 (0:Int)).getD i 0,fun _=>none⟩:Dev)=d5 pa from rfl]
 refine kPa aa aa (ad (ac (ac (ab (kPm aa aa (kPv (dq runUnderlying28 aa aa aa) aa (ad (cf aa (rfl) (ay (ac (ab ?_)))))))))))
 refine kPm aa aa (aE aa (aA call63 aa) (bU (q:=aG) (fun Fr=>tZ _ Fr _ _)) .free aa aa ?_)
 refine kPm aa aa (kPv (aB aa aa) aa (kPv (aB aa aa) aa (aC aa (aN zeroValue40 aa) .free aa aa ?_)))
 rintro _ _ ⟨b2,rfl,rfl⟩
 refine aD aa (aI (vs:=_) sizeOf40 aa aa aa aa aa) .free aa ?_
 rintro _ _ rfl
 refine kPa aa aa (ad (ao [3,1,0] rfl (ac (ab (dT 1 aa (kPm aa aa (kPv (aZ aa (eh _ _ _ aa aa aa)) aa ?_)))))))
 refine aY aa (aA call110 aa) (rA _ _ _ _ ⟨3,1,8⟩) .free aa aa ?_ ?_
 rotate_left
 ·rintro _ _ ⟨s9,hm9,rfl,rfl⟩
  exact(kO (yW pa) hm9).elim
 rintro _ _ ⟨a,s1,hm1,rfl,rfl⟩
 have hev:=cE (yW pa) hm1
 simp only[Bool.and_eq_true,beq_iff_eq] at hev
 obtain⟨⟨⟨⟨⟨v1,v2⟩,v3⟩,v4⟩,v5⟩,v6⟩:=hev
 have hw5:bC s1.readC.1:=⟨by omega,by omega,by omega,by omega,by omega,by omega⟩
 refine kPa aa aa (ad (ac (ab (kPm aa aa (aE aa (aA call63 aa) (bU (q:=aG) (fun Fr=>tZ _ Fr _ _)) .free aa aa ?_)))))
 refine kPm aa aa (kPv (aB aa aa) aa (kPv (aB aa aa) aa (aC aa (aN zeroValue40 aa) .free aa aa ?_)))
 rintro _ _ ⟨b5,rfl,rfl⟩
 refine aD aa (aI (vs:=_) sizeOf40 aa aa aa aa aa) .free aa ?_
 rintro _ _ rfl
 refine kPa aa aa (ad (ao [6,5,4,3,0] rfl (ac (ab (kPm aa aa (kPv (an aa aa aa) aa (kPm aa aa ?_)))))))
 apply dr (tp:=31) (t:=28) (σ1:=[(28,_),(6,_),(5,_),(0,_)]) 3 rfl (aF rfl)
 ·intro hg1
  refine aq aa (ap aa) (.on aa aa (ah hg1)) aa aa (aq aa (an aa aa aa) (.on aa aa (ah hg1)) aa aa (kPv (aH aa hg1 aa) aa ?_))
  exact ba aa (aF aa) (cV hg1)
 ·intro hg1
  refine ar aa (.on aa aa (ai hg1)) aa (ar aa (.on aa aa (ai hg1)) aa (kPv (aL aa hg1 aa) aa ?_))
  exact ba aa (aF aa) (cW hg1)
 refine kPm aa aa ?_
 apply dr (tp:=35) (t:=32) (σ1:=[(32,_),(5,_),(0,_)]) 3 rfl (aF rfl)
 ·intro hg2
  refine aq aa (ap aa) (.on aa aa (ah hg2)) aa aa (aq aa (an aa aa aa) (.on aa aa (ah hg2)) aa aa (kPv (aH aa hg2 aa) aa ?_))
  exact ba aa (aF aa) (cV hg2)
 ·intro hg2
  refine ar aa (.on aa aa (ai hg2)) aa (ar aa (.on aa aa (ai hg2)) aa (kPv (aL aa hg2 aa) aa ?_))
  exact ba aa (aF aa) (cW hg2)
 refine kPm aa aa ?_
 apply dr (tp:=40) (t:=36) (σ1:=[(36,_),(0,_)]) 4 rfl ⟨rfl,rfl,trivial⟩
 ·intro hg3
  refine aq aa (am isAgg40 sizeOf40 aa aa) (.on aa aa (ah hg3)) aa aa ?_
  refine aE aa (aA call108 aa) (kv _ _ _ hw5) (.on aa aa (ah hg3)) aa aa ?_
  refine aq aa (an aa aa aa) (.on aa aa (ah hg3)) aa aa (kPv (aH aa hg3 aa) aa ?_)
  exact ba aa ⟨rfl,rfl,trivial⟩ (cV hg3)
 ·intro hg3
  refine ar aa (.on aa aa (ai hg3)) aa (ar aa (.on aa aa (ai hg3)) aa (ar aa (.on aa aa (ai hg3)) aa (kPv (aL aa hg3 aa) aa ?_)))
  exact ba aa ⟨rfl,rfl,trivial⟩ (cW hg3)
 refine kPa aa aa (ad (az ?_))
 exact ax results215 aa (fun w hw=>⟨vd (by rw[v6,v1,v5];simp[Cfg.words,Cfg.frm,Cfg.root,Cfg.active,Cfg.record,gm,v2,v3,v4]),hw.tail.tail.tail.tail⟩)
def l6(d:Nat)(s:Dev):Out (Int×ce):=((cC d ⟨3,1,8⟩ s).append s 40)
set_option maxRecDepth 100000 in
theorem yV(pa d:Nat):okB ((jW pa [] 56).format ⟨3,1,8⟩) (fun _ s=>okB (l6 d s) fun x s'=>x.1==0&&(cC d ⟨3,1,8⟩ s').n==1&&(cC d ⟨3,1,8⟩ s').epoch==1)=true:=by kernel_rfl
def s7(d:Nat)(s:Dev):bG:=⟨cC d ⟨3,1,8⟩ s,0,0,[],[]⟩
set_option maxRecDepth 100000 in
theorem yU(pa d:Nat):okB ((jW pa [] 56).format ⟨3,1,8⟩) (fun _ s=>okB ((s7 d s).store s 40 5) fun x s'=>x.1==0&&s'.load 40==5&&okB (x.2.abort s') fun _ s2=>s2.load 40==0)=true:=by kernel_rfl
theorem Ad(B:World)(H:List HP):
 ∀ w,Holds B H w→Calls Tryz.prog 214 [].toArray w (bB B H (.bool true)):=by
 refine au func214 aa ntmps214 aa (ac (ab (kPa aa aa (ad (ac (ac (ab (aE aa (aA call215 aa) (Ae _ _) .free aa aa ?_))))))))
 refine kPv (bF aa) aa (ad (cf aa (rfl) (ay (ac (ab (kPv (aZ aa (eh _ _ _ aa aa aa)) aa (aC aa (aN zeroValue40 aa) .free aa aa ?_)))))))
 rintro _ _ ⟨b1,rfl,rfl⟩
 refine aD aa (aI (vs:=_) sizeOf40 aa aa aa aa aa) .free aa ?_
 rintro _ _ rfl
 refine ad (ac (ab (kPv (am isAgg40 sizeOf40 aa aa) aa ?_)))
 refine aQ aa (aA call49 aa) (eJ _ _ ⟨3,1,8⟩ gR none 0 [] (by decide) (fun _ h=>absurd h (Nat.not_lt_zero _)) SlR.nil) .free aa aa ?_
 rintro _ _ ⟨bd,pa,N,s0,hN,hf,rfl,rfl⟩
 obtain rfl:N=56:=by have:(N:Int)=56:=hN.trans (by decide);omega
 refine kPm aa aa (kPv (aB aa aa) aa (kPv (aB aa aa) aa (kPa aa aa (kPa aa aa (ad (ao [3,2,1,0] rfl (ac (ac (ab (kPm aa aa (kPv (bF aa) aa ?_)))))))))))
 refine ad (cf aa (rfl) (ay (ac (ab (kPm aa aa (kPv (am isAgg40 sizeOf40 aa aa) aa ?_))))))
 refine aQ aa (aA call64 aa) (lO _ _ _ _ ⟨3,1,8⟩ gR) .free aa aa ?_
 rintro _ _ ⟨bl2,rfl,rfl⟩
 refine kPa aa aa (ad (ac (ac (ab (kPm aa aa (kPv (dq runUnderlying116 aa aa aa) aa (kPm aa aa (aq aa (ap aa) (.on aa aa (ah aa)) aa aa ?_))))))))
 refine aY aa (aA call119 aa) (q9 _ _ _ (cC bd ⟨3,1,8⟩ s0) s0 (jH gR) 40) (.on aa aa (ah aa)) aa aa ?_ ?_
 rotate_left
 ·rintro _ _ ⟨s9,hm9,rfl,rfl⟩
  exact(kO (cE (yV pa bd) hf) hm9).elim
 rintro _ _ ⟨a,L1,s1,hm1,rfl,rfl⟩
 have hev:=cE (cE (yV pa bd) hf) hm1
 simp only[Bool.and_eq_true,beq_iff_eq] at hev
 obtain⟨⟨e1,e2⟩,e3⟩:=hev
 refine aq aa (an aa aa aa) (.on aa aa (ah aa)) aa aa (kPv (aL aa aa aa) aa (kPm aa aa (aq aa (ap aa) (.on aa aa (ah (by rw[e1];rfl))) aa aa (aQ aa (aA call132 aa) (pj _ _ _) (.on aa aa (ah (by rw[e1];rfl))) aa aa ?_))))
 rintro _ _ ⟨bb,rfl,rfl⟩
 refine aq aa (pS runUnderlying174 ⟨_,_,_,rfl⟩ rfl aa aa) (.on aa aa (ah (by rw[e1];rfl))) aa aa (kPv (aL aa (by rw[e1];rfl) aa) aa (ad (ao [30,2,1,0] rfl (cf aa (rfl) (ay (ac (ab (dT 2 aa ?_))))))))
 simp only[List.eraseIdx_cons_succ,List.eraseIdx_cons_zero]
 refine kPm aa aa (kPv (am isAgg40 sizeOf40 aa aa) aa ?_)
 refine aQ aa (aA call64 aa) (lO _ _ _ _ ⟨3,1,8⟩ gR) .free aa aa ?_
 rintro _ _ ⟨bl5,rfl,rfl⟩
 refine kPa aa aa (ad (ac (ab (kPm aa aa (kPv (dq runUnderlying116 aa aa aa) aa (kPm aa aa ?_))))))
 apply dr (tp:=40) (t:=36) (σ1:=[(36,_),(5,_),(0,_)]) 4 rfl (aF rfl)
 ·intro hg1
  refine aq aa (ap aa) (.on aa aa (ah hg1)) aa aa (aE aa (aA call76 aa) (yt _ _ _ _) (.on aa aa (ah hg1)) aa aa ?_)
  refine aq aa (an aa aa aa) (.on aa aa (ah hg1)) aa aa (kPv (aH aa hg1 aa) aa ?_)
  exact ba aa (aF aa) (cV hg1)
 ·intro hg1
  refine ar aa (.on aa aa (ai hg1)) aa (ar aa (.on aa aa (ai hg1)) aa (ar aa (.on aa aa (ai hg1)) aa (kPv (aL aa hg1 aa) aa ?_)))
  exact ba aa (aF aa) (cW hg1)
 refine kPm aa aa ?_
 apply dr (tp:=45) (t:=41) (σ1:=[(41,_),(0,_)]) 4 rfl ⟨rfl,rfl,trivial⟩
 ·intro hg2
  refine aq aa (ap aa) (.on aa aa (ah hg2)) aa aa (aE aa (aA call216 aa) (zF _ _ _ _) (.on aa aa (ah hg2)) aa aa ?_)
  refine aq aa (an aa aa aa) (.on aa aa (ah hg2)) aa aa (kPv (aH aa hg2 aa) aa ?_)
  exact ba aa ⟨rfl,rfl,trivial⟩ (cV hg2)
 ·intro hg2
  refine ar aa (.on aa aa (ai hg2)) aa (ar aa (.on aa aa (ai hg2)) aa (ar aa (.on aa aa (ai hg2)) aa (kPv (aL aa hg2 aa) aa ?_)))
  exact ba aa ⟨rfl,rfl,trivial⟩ (cW hg2)
 refine kPa aa aa (ad (az ?_))
 exact ax results214 aa (fun w hw=>⟨vd (by
  show(!(some (⟨bl5,0,none⟩:Addr)).isNone&&(cC bd ⟨3,1,8⟩ s1).n==1&&(cC bd ⟨3,1,8⟩ s1).epoch==1)=true
  rw[e2,e3];rfl),hw.tail.tail.tail.tail.tail⟩)
theorem DL{d:Nat}{c:Cfg}{s:Dev}{f t:Int}(h:bC c):mZ ⟨cC d c s,f,t,[],[]⟩:=⟨jH h,by simp⟩
theorem tR{S S':bG}{s s':Dev}{i v a:Int}(h:mZ S)(hs:s.n≤1000000)(ha:0≤S.L.c.active)(e:S.store s i v= .ok (a,S') s')(hw:dZ S'.L):mZ S':=by
 refine⟨hw,?_⟩
 unfold bG.store at e
 split at e
 ·cases e;exact h.dirty
 ·rename_i hb
  split at e
  ·cases h1:S.L.append s i with
   | off t=>rw[h1] at e;cases e
   | ok x t=>
     rw[h1,aX] at e
     split at e
     ·cases e;exact h.dirty
     ·cases h2:t.store i v with
      | off u=>rw[h2] at e;cases e
      | ok y u=>
        rw[h2,aX] at e;cases e
        intro p hp
        rcases nx hp with rfl | hp
        ·simp only;omega
        ·exact h.dirty p hp
  ·cases h2:s.store i v with
   | off u=>rw[h2] at e;cases e
   | ok y u=>
     rw[h2,aX] at e;cases e
     intro p hp
     rcases nx hp with rfl | hp
     ·simp only;omega
     ·exact h.dirty p hp
theorem B9{L L':ce}{s s':Dev}{i a:Int}(h:dZ L)(e:L.append s i= .ok (a,L') s'):dZ L':=by
 unfold ce.append at e
 split at e
 ·cases e;exact h
 ·split at e
  ·cases e;exact h
  ·rename_i hn
   have h1:=h.n2
   have h2:=h.n1
   simp only[Out.then] at e
   repeat' split at e
   all_goals first | (cases e;exact⟨h.c,h.e1,h.e2,by simp only;omega,by simp only;omega⟩) | cases e
theorem kc{S S':bG}{s s':Dev}{i v a:Int}(h:dZ S.L)(e:S.store s i v= .ok (a,S') s'):dZ S'.L:=by
 unfold bG.store at e
 split at e
 ·cases e;exact h
 ·split at e
  ·cases h1:S.L.append s i with
   | off t=>rw[h1] at e;cases e
   | ok x t=>
     obtain⟨x1,x2⟩:=x
     have hx:=B9 h h1
     rw[h1,aX] at e
     split at e
     ·cases e;exact hx
     ·cases h2:t.store i v with
      | off u=>rw[h2] at e;cases e
      | ok y u=>rw[h2,aX] at e;cases e;exact hx
  ·cases h2:s.store i v with
   | off u=>rw[h2] at e;cases e
   | ok y u=>rw[h2,aX] at e;cases e;exact h
theorem qk{S S':bG}{s s':Dev}{i v a:Int}(e:S.store s i v= .ok (a,S') s'):S'.L.d=S.L.d∧S'.L.c=S.L.c∧S'.ff=S.ff∧S'.ft=S.ft:=by
 unfold bG.store at e
 split at e
 ·cases e;exact⟨rfl,rfl,rfl,rfl⟩
 ·split at e
  ·cases h1:S.L.append s i with
   | off t=>rw[h1] at e;cases e
   | ok x t=>
     obtain⟨x1,x2⟩:=x
     have hx:=oX h1
     rw[h1,aX] at e
     split at e
     ·cases e;exact⟨hx.1,hx.2,rfl,rfl⟩
     ·cases h2:t.store i v with
      | off u=>rw[h2] at e;cases e
      | ok y u=>rw[h2,aX] at e;cases e;exact⟨hx.1,hx.2,rfl,rfl⟩
  ·cases h2:s.store i v with
   | off u=>rw[h2] at e;cases e
   | ok y u=>rw[h2,aX] at e;cases e;exact⟨rfl,rfl,rfl,rfl⟩
theorem Ac(B:World)(H:List HP):
 ∀ w,Holds B H w→Calls Tryz.prog 213 [].toArray w (bB B H (.bool true)):=by
 refine au func213 aa ntmps213 aa (ac (ab (kPa aa aa (ad (ac (ac (ab (aE aa (aA call214 aa) (Ad _ _) .free aa aa ?_))))))))
 refine kPv (bF aa) aa (ad (cf aa (rfl) (ay (ac (ab (kPv (aZ aa (eh _ _ _ aa aa aa)) aa (aC aa (aN zeroValue40 aa) .free aa aa ?_)))))))
 rintro _ _ ⟨b1,rfl,rfl⟩
 refine aD aa (aI (vs:=_) sizeOf40 aa aa aa aa aa) .free aa ?_
 rintro _ _ rfl
 refine ad (ac (ab (kPv (am isAgg40 sizeOf40 aa aa) aa ?_)))
 refine aQ aa (aA call49 aa) (eJ _ _ ⟨3,1,8⟩ gR none 0 [] (by decide) (fun _ h=>absurd h (Nat.not_lt_zero _)) SlR.nil) .free aa aa ?_
 rintro _ _ ⟨bd,pa,N,s0,hN,hf,rfl,rfl⟩
 obtain rfl:N=56:=by have:(N:Int)=56:=hN.trans (by decide);omega
 refine kPm aa aa (kPv (aB aa aa) aa (kPv (aB aa aa) aa (kPa aa aa (kPa aa aa (ad (ao [3,2,1,0] rfl (ac (ac (ab (kPm aa aa (kPv (bF aa) aa ?_)))))))))))
 refine ad (cf aa (rfl) (ay (ac (ab (kPm aa aa (kPv (am isAgg40 sizeOf40 aa aa) aa ?_))))))
 refine aQ aa (aA call69 aa) (tU _ _ _ _ ⟨3,1,8⟩ gR) .free aa aa ?_
 rintro _ _ ⟨bs,rfl,rfl⟩
 refine kPa aa aa (ad (ao [4,2,0] rfl (ac (ac (ab (kY fun bl o1 o2=>(kPm aa aa (kPv (dq runUnderlying89 aa aa aa) aa (kPm aa aa (aq aa (ap aa) (.on aa aa (ah aa)) aa aa (aq aa (ak aa) (.on aa aa (ah aa)) aa aa ?_)))))))))))
 refine aq aa (aj (m:=_) jv aa aa) (.on aa aa (ah aa)) aa aa (aq aa (ae isAgg116 aa aa) (.on aa aa (ah aa)) aa aa (aq aa (dq runUnderlying116 aa aa aa) (.on aa aa (ah aa)) aa aa (kPv (aL aa aa aa) aa (ad (ao [30,4,2,0] rfl (cf aa (rfl) (ay (ac (ab (aK (H':=eD bs (⟨cC bd ⟨3,1,8⟩ s0,0,0,[],[]⟩:bG)::aG bd s0::row b1 _ 40::H) (fun w hh=>ei (S:=(⟨cC bd ⟨3,1,8⟩ s0,0,0,[],[]⟩:bG)) hh) (mA bd fun hn1 hn2 hn3=> ?_)))))))))))
 refine kPm aa aa (kPv (aZ aa (B4)) aa (cL aa (aA call53 aa) (kM _ _ _ _ _ _) .free aa aa ?_))
 refine kPm aa aa ?_
 refine aY aa (aA call56 aa) (qs _ _ _ (⟨cC bd ⟨3,1,8⟩ s0,0,0,[],[]⟩:bG) s0 (DL gR) _ _) .free aa aa ?_ ?_
 rotate_left
 ·rintro _ _ ⟨s9,hm9,rfl,rfl⟩
  exact(kO (cE (yU pa bd) hf) hm9).elim
 rintro _ _ ⟨a,S1,s1,hm1,rfl,rfl⟩
 have hev:=cE (cE (yU pa bd) hf) hm1
 simp only[Bool.and_eq_true,beq_iff_eq] at hev
 obtain⟨⟨e1,e2⟩,e3⟩:=hev
 have hd:=(qk hm1).1
 have hW1:mZ S1:=tR (DL gR) hn3 (show(0:Int)≤(Cfg.mk 3 1 8).active by decide) hm1 (kc (jH gR) hm1)
 refine aK (H':=iK bs S1::aG bd s1::row b1 _ 40::H) (fun w hh=>hh) (kPa aa aa (kPa aa aa (ad (ac (ab (kPm aa aa (aE aa (aA call71 aa) (bU (q:=aG) (fun Fr=>cH _ Fr _ _ _)) .free aa aa ?_)))))))
 refine kPa aa aa (ad (ao [7,6,5,4,2,0] rfl (ac (ab (aK (H':=iK bs S1::aG S1.L.d s1::row b1 _ 40::H) (fun w hh=>by rw[hd];exact hh) (kPm aa aa ?_))))))
 refine aY aa (aA call145 aa) (mJ _ _ _ S1 s1 hW1) .free aa aa ?_ ?_
 rotate_left
 ·rintro _ _ ⟨s9,hm9,rfl,rfl⟩
  exact(kO e3 hm9).elim
 rintro _ _ ⟨S2,s2,hm2,rfl,rfl⟩
 have e4:=cE e3 hm2
 simp only[beq_iff_eq] at e4
 refine aK (H':=eD bs S2::aG bd s2::row b1 _ 40::H) (fun w hh=>by rw[hd] at hh;exact hh) (kPa aa aa (ad (ac (ab (kPm aa aa (kPv (an aa aa aa) aa (kPm aa aa ?_)))))))
 apply dr (tp:=45) (t:=42) (σ1:=[(42,_),(8,_),(7,_),(4,_),(2,_),(0,_)]) 3 rfl (aF rfl)
 ·intro hg1
  refine aq aa (ap aa) (.on aa aa (ah hg1)) aa aa (aq aa (an aa aa aa) (.on aa aa (ah hg1)) aa aa (kPv (aH aa hg1 aa) aa ?_))
  exact ba aa (aF aa) (cV hg1)
 ·intro hg1
  refine ar aa (.on aa aa (ai hg1)) aa (ar aa (.on aa aa (ai hg1)) aa (kPv (aL aa hg1 aa) aa ?_))
  exact ba aa (aF aa) (cW hg1)
 refine kPm aa aa ?_
 apply dr (tp:=49) (t:=46) (σ1:=[(46,_),(7,_),(4,_),(2,_),(0,_)]) 3 rfl (aF rfl)
 ·intro hg2
  refine aq aa (ap aa) (.on aa aa (ah hg2)) aa aa (aq aa (an aa aa aa) (.on aa aa (ah hg2)) aa aa (kPv (aH aa hg2 aa) aa ?_))
  exact ba aa (aF aa) (cV hg2)
 ·intro hg2
  refine ar aa (.on aa aa (ai hg2)) aa (ar aa (.on aa aa (ai hg2)) aa (kPv (aL aa hg2 aa) aa ?_))
  exact ba aa (aF aa) (cW hg2)
 refine kPm aa aa ?_
 apply dr (tp:=53) (t:=50) (σ1:=[(50,_),(4,_),(2,_),(0,_)]) 3 rfl (aF rfl)
 ·intro hg3
  refine aq aa (ap aa) (.on aa aa (ah hg3)) aa aa (aq aa (an aa aa aa) (.on aa aa (ah hg3)) aa aa (kPv (aH aa hg3 aa) aa ?_))
  exact ba aa (aF aa) (cV hg3)
 ·intro hg3
  refine ar aa (.on aa aa (ai hg3)) aa (ar aa (.on aa aa (ai hg3)) aa (kPv (aL aa hg3 aa) aa ?_))
  exact ba aa (aF aa) (cW hg3)
 refine kPm aa aa ?_
 apply dr (tp:=58) (t:=54) (σ1:=[(54,_),(4,_),(0,_)]) 4 rfl (aF rfl)
 ·intro hg4
  refine aq aa (ap aa) (.on aa aa (ah hg4)) aa aa (aE aa (aA call71 aa) (bU (q:=aG) (fun Fr=>cH _ Fr _ _ _)) (.on aa aa (ah hg4)) aa aa ?_)
  refine aq aa (an aa aa aa) (.on aa aa (ah hg4)) aa aa (kPv (aH aa hg4 aa) aa ?_)
  exact ba aa (aF aa) (cV hg4)
 ·intro hg4
  refine ar aa (.on aa aa (ai hg4)) aa (ar aa (.on aa aa (ai hg4)) aa (ar aa (.on aa aa (ai hg4)) aa (kPv (aL aa hg4 aa) aa ?_)))
  exact ba aa (aF aa) (cW hg4)
 refine kPm aa aa ?_
 apply dr (tp:=63) (t:=59) (σ1:=[(59,_),(0,_)]) 4 rfl ⟨rfl,rfl,trivial⟩
 ·intro hg5
  refine aq aa (ap aa) (.on aa aa (ah hg5)) aa aa (aE aa (aA call51 aa) (og _ _ _ _) (.on aa aa (ah hg5)) aa aa ?_)
  refine aq aa (bF aa) (.on aa aa (ah hg5)) aa aa (kPv (aH aa hg5 aa) aa ?_)
  exact ba aa ⟨rfl,rfl,trivial⟩ (cV hg5)
 ·intro hg5
  refine ar aa (.on aa aa (ai hg5)) aa (ar aa (.on aa aa (ai hg5)) aa (ar aa (.on aa aa (ai hg5)) aa (kPv (aL aa hg5 aa) aa ?_)))
  exact ba aa ⟨rfl,rfl,trivial⟩ (cW hg5)
 refine kPa aa aa (ad (az ?_))
 exact ax results213 aa (fun w hw=>⟨vd (by rw[e1,e2,e4];rfl),hw.tail.tail.tail⟩)
def Dev.pk(s:Dev)(x:Nat):Int:=eT s.kept s.q x
def Run{α:Type}(m:Out α)(R:Dev→Prop):Prop:=∃ a s,m= .ok a s∧R s
theorem dF{α β:Type}{m:Out α}{f:α→Dev→Out β}{R Q:Dev→Prop}(h:Run m R)(g:∀ a s,R s→Run (f a s) Q):Run (m.then f) Q:=by
 obtain⟨a,s,rfl,h1⟩:=h
 exact g a s h1
structure FI(N:Nat)(D:Nat→Prop)(V:Nat→Int→Prop)(s:Dev):Prop where
 lim:s.pow.lim<0
 n:s.n=N
 p:∀ x,¬ D (x / 8)→s.pk x=s.now x
 v:∀ x y,V x y→s.now x=y
theorem qN(s:Dev)(i x:Nat):(s.up.fl i).pk x=if x / 8=i / 8 then s.now x else s.pk x:=by
 simp only[Dev.pk,Dev.fl,Dev.up,eT,upd]
 by_cases e:x / 8=i / 8
 ·rw[if_pos e,if_pos e]
  simp only
  congr 1;omega
 ·rw[if_neg e,if_neg e]
theorem AN(s:Dev)(x:Nat):s.up.fe.pk x=s.pk x:=rfl
theorem kf{N:Nat}{D:Nat→Prop}{V V':Nat→Int→Prop}{s:Dev}{i v:Int}(h:FI N D V s)(hi:0≤i∧i<N)(hv:∀ x y,V' x y→(x=i.toNat∧y=v)∨(x≠i.toNat∧V x y)):
 Run (s.store i v) (FI N (fun l=>D l∨l=i.toNat / 8) V'):=by
 refine⟨0,_,ng h.lim ⟨hi.1,by rw[h.n];exact hi.2⟩,?_⟩
 refine⟨h.lim,h.n,fun x hx=> ?_,fun x y hp=> ?_⟩
 ·have hne:x≠i.toNat:=fun e=>hx (.inr (by rw[e]))
  show s.pk x=upd s.now i.toNat v x
  simp only[upd,if_neg hne]
  exact h.p x fun hd=>hx (.inl hd)
 ·show upd s.now i.toNat v x=y
  rcases hv x y hp with ⟨e1,e2⟩ | ⟨e1,e2⟩
  ·simp only[upd,if_pos e1,e2]
  ·simp only[upd,if_neg e1];exact h.v x y e2
theorem kg{N:Nat}{D D':Nat→Prop}{V:Nat→Int→Prop}{s:Dev}{i:Int}(h:FI N D V s)(hi:0≤i∧i<N)(hD:∀ l,D l→D' l∨l=i.toNat / 8):
 Run (s.flush i) (FI N D' V):=by
 refine⟨0,_,rC h.lim ⟨hi.1,by rw[h.n];exact hi.2⟩,?_⟩
 refine⟨h.lim,h.n,fun x hx=> ?_,h.v⟩
 rw[qN]
 by_cases e:x / 8=i.toNat / 8
 ·rw[if_pos e];rfl
 ·rw[if_neg e]
  exact h.p x fun hd=>(hD _ hd).elim hx e
theorem oh{N:Nat}{D:Nat→Prop}{V:Nat→Int→Prop}{s:Dev}(h:FI N D V s):Run s.fence (fun s'=>FI N D V s'∧s'.kept=s'.pk∧s'.q=fun _=>none):=by
 refine⟨(),_,nP h.lim,⟨h.lim,h.n,fun x hx=> ?_,h.v⟩,rfl,rfl⟩
 rw[AN];exact h.p x hx
def VZ(V:Nat→Int→Prop)(f:Int→Int)(i:Int)(k:Nat)(x:Nat)(y:Int):Prop:=(V x y∧∀ j:Int,i≤j→j<i+k→x≠(f j).toNat)∨(y=0∧∃ j:Int,i≤j∧j<i+k∧x=(f j).toNat)
theorem qG{N:Nat}{D:Nat→Prop}(f:Int→Int):∀ (k:Nat) (V:Nat→Int→Prop) (i:Int) (s:Dev),FI N D V s→(∀ j:Int,i≤j→j<i+k→0≤f j∧f j<N)→Run (fh f k i s) (FI N D (VZ V f i k))
 | 0,V,i,s,h,_=>⟨(),s,rfl,h.lim,h.n,h.p,fun x y hv=>by
   rcases hv with ⟨h1,_⟩ | ⟨_,j,h1,h2,_⟩
   ·exact h.v x y h1
   ·omega⟩
 | k+1,V,i,s,h,hf=>by
   have hfi:=hf i (Int.le_refl _) (by omega)
   refine dF (kf (V':=fun x y=>(V x y∧x≠(f i).toNat)∨(y=0∧x=(f i).toNat)) h hfi fun x y hp=> ?_) fun _ s1 h1=>dF (kg (D':=D) h1 hfi fun l hl=>hl) fun _ s2 h2=> ?_
   ·rcases hp with ⟨h1,h2⟩ | ⟨h1,h2⟩
    ·exact .inr ⟨h2,h1⟩
    ·exact .inl ⟨h2,h1⟩
   ·obtain⟨a,s3,e,h3⟩:=qG f k _ (i+1) s2 h2 (fun j h3 h4=>hf j (by omega) (by omega))
    refine⟨a,s3,e,h3.lim,h3.n,h3.p,fun x y hv=>h3.v x y ?_⟩
    rcases hv with ⟨g1,g2⟩ | ⟨g1,j,g2,g3,g4⟩
    ·exact .inl ⟨.inl ⟨g1,g2 i (by omega) (by omega)⟩,fun j h5 h6=>g2 j (by omega) (by omega)⟩
    ·by_cases hx:∃ j:Int,i+1≤j∧j<i+1+k∧x=(f j).toNat
     ·exact .inr ⟨g1,hx⟩
     ·refine .inl ⟨.inr ⟨g1,?_⟩,fun j' h5 h6 h7=>hx ⟨j',h5,h6,h7⟩⟩
      by_cases hj:j=i
      ·rw[g4,hj]
      ·exact absurd ⟨j,by omega,by omega,g4⟩ hx
theorem yc{N:Nat}(l:List Int)(hN:40≤N):∀ (k i:Nat) (V:Nat→Int→Prop) (s:Dev),i+k≤3→FI N (fun l=>l=0) V s→Run (st3 l k i s) (FI N (fun l=>l=0) (fun x y=>(V x y∧(x<1+i∨1+i+k≤x))∨(1+i≤x∧x<1+i+k∧y=l.getD (x - 1) 0)))
 | 0,i,V,s,_,h=>⟨(),s,rfl,h.lim,h.n,h.p,fun x y hv=>by
   rcases hv with ⟨h1,_⟩ | ⟨h1,h2,_⟩
   ·exact h.v x y h1
   ·omega⟩
 | k+1,i,V,s,hk,h=>by
   refine dF (kf (V':=fun x y=>(V x y∧x≠1+i)∨(x=1+i∧y=l.getD i 0)) h ⟨by omega,by omega⟩ fun x y hp=> ?_) fun _ s1 h1=> ?_
   ·have e:(1+(i:Int)).toNat=1+i:=by omega
    rw[e]
    rcases hp with ⟨h1,h2⟩ | ⟨h1,h2⟩
    ·exact .inr ⟨h2,h1⟩
    ·exact .inl ⟨h1,h2⟩
   ·obtain⟨a,s3,e,h3⟩:=yc l hN k (i+1) _ s1 (by omega) ⟨h1.lim,h1.n,fun x hx=>h1.p x fun hd=>by
     rcases hd with h2 | h2
     ·exact hx h2
     ·exact hx (by rw[h2];omega),h1.v⟩
    refine⟨a,s3,e,h3.lim,h3.n,h3.p,fun x y hv=>h3.v x y ?_⟩
    rcases hv with ⟨g1,g2⟩ | ⟨g1,g2,g3⟩
    ·exact .inl ⟨.inl ⟨g1,by omega⟩,by omega⟩
    ·by_cases hx:x=1+i
     ·exact .inl ⟨.inr ⟨hx,by rw[g3,hx];congr 1;omega⟩,by omega⟩
     ·exact .inr ⟨by omega,by omega,g3⟩
theorem FI.weak{N:Nat}{D D':Nat→Prop}{V V':Nat→Int→Prop}{s:Dev}(h:FI N D V s)(hD:∀ l,D l→D' l)(hv:∀ x y,V' x y→V x y):FI N D' V' s:=⟨h.lim,h.n,fun x hx=>h.p x fun hd=>hx (hD _ hd),fun x y hp=>h.v x y (hv x y hp)⟩
structure Ao(s:Dev):Prop where
 kept:s.kept=s.now
 q:s.q=fun _=>none
structure DU(c:Cfg)(s:Dev):Prop where
 ep:s.now 8=1
 recs:∀ k:Nat,(k:Int)<c.log→s.now (16+4*k)=0
 block:∀ x:Nat,c.active≤x→x<c.root c.roots→s.now x=0
 magic:s.now 0=ig
 cfg:s.now 1=c.log∧s.now 2=c.roots∧s.now 3=c.space
theorem xq{s:Dev}{c:Cfg}{N:Nat}(hc:bC c)(hn:(s.n:Int)=c.words)(hN:s.n=N)(hl:s.pow.lim<0)(hs:Ao s):Run (s.format c) (fun s'=>Ao s'∧s'.pow.lim<0∧s'.n=N∧DU c s'):=by
 have hw:=words_b hc
 have hact:=hc.act
 have:=hc.r1;have:=hc.r2;have:=hc.l1;have:=hc.l2;have:=hc.s1;have:=hc.s2
 have hroot:c.active≤c.root c.roots∧c.root c.roots≤c.words:=by
  have h1:=dU (n:=c.root c.roots) (by simp only[Cfg.root];omega)
  have h2:=dU (n:=c.space) (by omega)
  refine⟨by simp only[Cfg.root];omega,?_⟩
  simp only[Cfg.words,Cfg.frm]
  omega
 have hN40:40≤N:=by omega
 have h0:FI N (fun _=>False) (fun _ _=>False) s:=⟨hl,hN,fun x _=>by rw[Dev.pk,hs.q];show s.kept x=_;rw[hs.kept],fun _ _ h=>h.elim⟩
 unfold Dev.format
 rw[if_neg (c6 hc hn)]
 refine dF (kf (V':=fun _ _=>False) h0 ⟨by omega,by omega⟩ fun _ _ h=>h.elim) fun _ s1 h1=> ?_
 refine dF (kg (D':=fun _=>False) h1 ⟨by omega,by omega⟩ fun l hl=>hl) fun _ s2 h2=> ?_
 refine dF (oh h2) fun _ s3 h3=> ?_
 refine dF (yc _ hN40 3 0 _ s3 (by omega) (h3.1.weak (V':=fun _ _=>False) (fun _ h=>h.elim) fun _ _ h=>h)) fun _ s4 h4=> ?_
 refine dF (kf (V':=fun x y=>(x=8∧y=1)∨(x=1∧y=c.log)∨(x=2∧y=c.roots)∨(x=3∧y=c.space)) h4 ⟨by omega,by omega⟩ fun x y hp=> ?_) fun _ s5 h5=> ?_
 ·rcases hp with ⟨e1,e2⟩ | ⟨e1,e2⟩ | ⟨e1,e2⟩ | ⟨e1,e2⟩
  ·exact .inl ⟨e1,e2⟩
  ·exact .inr ⟨by rw[e1];decide,.inr ⟨by omega,by omega,by rw[e2,e1];rfl⟩⟩
  ·exact .inr ⟨by rw[e1];decide,.inr ⟨by omega,by omega,by rw[e2,e1];rfl⟩⟩
  ·exact .inr ⟨by rw[e1];decide,.inr ⟨by omega,by omega,by rw[e2,e1];rfl⟩⟩
 refine dF (kg (D':=fun l=>l=0) h5 ⟨by omega,by omega⟩ fun l hl=>hl) fun _ s6 h6=> ?_
 refine dF (qG c.record c.log.toNat _ 0 s6 h6 fun j h3 h4=>⟨by simp only[Cfg.record];omega,by simp only[Cfg.record];omega⟩) fun _ s7 h7=> ?_
 refine dF (qG id (c.root c.roots - c.active).toNat _ c.active s7 h7 fun j h3 h4=>⟨by simp only[id];omega,by simp only[id];omega⟩) fun _ s8 h8=> ?_
 refine dF (kg (D':=fun _=>False) h8 ⟨by omega,by omega⟩ fun l hl=> .inr (by simpa using hl)) fun _ s9 h9=> ?_
 refine dF (oh h9) fun _ s10 h10=> ?_
 have hold:∀ x y,x≠0→VZ (VZ (fun x y=>(x=8∧y=1)∨(x=1∧y=c.log)∨(x=2∧y=c.roots)∨(x=3∧y=c.space)) c.record 0 c.log.toNat) id c.active (c.root c.roots - c.active).toNat x y→True:=fun _ _ _ _=>trivial
 refine dF (kf (V':=fun x y=>(x=0∧y=ig)∨(x≠0∧VZ (VZ (fun x y=>(x=8∧y=1)∨(x=1∧y=c.log)∨(x=2∧y=c.roots)∨(x=3∧y=c.space)) c.record 0 c.log.toNat) id c.active (c.root c.roots - c.active).toNat x y)) h10.1 ⟨by omega,by omega⟩ fun x y hp=> ?_) fun _ s11 h11=> ?_
 ·rcases hp with ⟨e1,e2⟩ | ⟨e1,e2⟩
  ·exact .inl ⟨e1,e2⟩
  ·exact .inr ⟨e1,e2⟩
 refine dF (kg (D':=fun _=>False) h11 ⟨by omega,by omega⟩ fun l hl=>hl) fun _ s12 h12=> ?_
 refine dF (oh h12) fun _ s13 h13=> ?_
 have hkeep:∀ x y,x≠0→x<16→((x=8∧y=1)∨(x=1∧y=c.log)∨(x=2∧y=c.roots)∨(x=3∧y=c.space))→s13.now x=y:=fun x y h1 h2 h3=>h13.1.v x y (.inr ⟨h1,.inl ⟨.inl ⟨h3,fun j _ _=>by simp only[Cfg.record];omega⟩,fun j _ _=>by simp only[id];omega⟩⟩)
 refine⟨0,s13,rfl,⟨?_,h13.2.2⟩,h13.1.lim,h13.1.n,hkeep 8 1 (by decide) (by decide) (.inl ⟨rfl,rfl⟩),fun k hk=> ?_,fun x hx1 hx2=> ?_,h13.1.v 0 _ (.inl ⟨rfl,rfl⟩),hkeep 1 _ (by decide) (by decide) (.inr (.inl ⟨rfl,rfl⟩)),hkeep 2 _ (by decide) (by decide) (.inr (.inr (.inl ⟨rfl,rfl⟩))),hkeep 3 _ (by decide) (by decide) (.inr (.inr (.inr ⟨rfl,rfl⟩)))⟩
 ·rw[h13.2.1];funext x;exact h13.1.p x (fun h=>h)
 ·exact h13.1.v _ _ (.inr ⟨by omega,.inl ⟨.inr ⟨rfl,k,by omega,by omega,by simp only[Cfg.record];omega⟩,fun j h1 _=>by simp only[id];omega⟩⟩)
 ·exact h13.1.v _ _ (.inr ⟨by omega,.inr ⟨rfl,x,by omega,by omega,by simp⟩⟩)
structure Fmt(c:Cfg)(N:Nat)(s:Dev):Prop where
 calm:Ao s
 lim:s.pow.lim<0
 n:s.n=N
 log:∀ d,cC d c s=⟨d,c,1,0⟩
 ep:s.now 8=1∧s.now 16=0
 st:DU c s
theorem wZ{s:Dev}{c:Cfg}{e:Int}(h:s.load (c.record 0)≠gY e 0):∀ f,iE s c e f 0=0
 | 0=>rfl
 | f+1=>by simp only[iE];rw[if_neg h]
theorem rB{pa N:Nat}{xs:List Int}{c:Cfg}{s:Dev}(hc:bC c)(hN:(N:Int)=c.words)(h:(jW pa xs N).format c= .ok 0 s):Fmt c N s:=by
 have hw:=words_b hc
 obtain⟨a,t,e,h1,h2,h3,hst⟩:=xq (s:=jW pa xs N) hc hN rfl (show(-1:Int)<0 by decide) ⟨rfl,rfl⟩
 rw[h] at e;cases e
 have h3:s.n=N:=h3
 have h4:=hst.ep
 have h5:s.now 16=0:=hst.recs 0 (by have:=hc.l1;have:=hc.r1;omega)
 refine⟨h1,h2,h3,fun d=> ?_,⟨h4,h5⟩,hst⟩
 have e8:s.load 8=1:=by
  have:s.has 8=true:=by simp[Dev.has,h3];omega
  simp[Dev.load,this,h4]
 have e16:s.load (c.record 0)=0:=by
  have:s.has 16=true:=by simp[Dev.has,h3];omega
  show s.load 16=0
  simp[Dev.load,this,h5]
 unfold cC
 rw[e8]
 have:iE s c (1%4294967296) c.log.toNat 0=0:=wZ (by rw[e16];decide) _
 rw[this];rfl
structure Blk where
 act:Int
 used:Int
 rts:List Int
def U64(s:Dev):Prop:=∀ x,0≤s.now x∧s.now x<18446744073709551616
theorem U64.load{s:Dev}(h:U64 s)(i:Int):0≤s.load i∧s.load i<18446744073709551616:=by
 unfold Dev.load
 split
 ·exact h _
 ·omega
def Dev.block(s:Dev)(c:Cfg):Blk×Int:=
 if 1<s.load c.active∨c.space<s.load (c.active+1) then (⟨0,0,[]⟩,10)
 else (⟨s.load c.active,s.load (c.active+1),tab c.roots.toNat fun i=>s.load (c.root i)⟩,0)
structure fg(c:Cfg)(b:Blk):Prop where
 act:0≤b.act∧b.act≤1
 used:0≤b.used∧b.used≤c.space
theorem dM{s:Dev}{c:Cfg}(hc:bC c)(hu:U64 s):fg c (s.block c).1:=by
 have h1:=hu.load c.active
 have h2:=hu.load (c.active+1)
 have:=hc.s1
 unfold Dev.block
 split
 ·exact⟨⟨by decide,by decide⟩,⟨by decide,by show(0:Int)≤c.space;omega⟩⟩
 ·rename_i h
  exact⟨⟨by simp only;omega,by simp only;omega⟩,⟨by simp only;omega,by simp only;omega⟩⟩
def Blk.place(b:Blk)(c:Cfg)(i:Int):Int:=c.frm b.act+i
def Blk.has(b:Blk)(c:Cfg)(w:Int):Bool:=decide (c.frm b.act≤w)&&decide (w - c.frm b.act<b.used)
abbrev du:=Int×Int×Int
def Dev.objOf(s:Dev)(c:Cfg)(b:Blk)(at_:Int):du×Int:=
 if at_<0∨b.has c at_=false then ((0,0,0),6)
 else if (unp (s.load at_)).2.2=false∨b.place c b.used - at_<(unp (s.load at_)).1+1 then ((0,0,0),8)
 else (((unp (s.load at_)).1,(unp (s.load at_)).2.1,at_),0)
def bS(o:du)(i:Int)(ref:Bool):Int×Int:=
 if i<0∨o.1≤i then (0,1) else if decide (i<o.2.1)≠ref then (0,5) else (o.2.2+1+i,0)
def Dev.objRead(s:Dev)(o:du)(i:Int):Int×Int:=if (bS o i false).2≠0 then (0,(bS o i false).2) else (s.load (bS o i false).1,0)
def Dev.objRef(s:Dev)(o:du)(i:Int):Int×Int:=if (bS o i true).2≠0 then (0,(bS o i true).2) else (IntKind.i64.wrap (s.load (bS o i true).1),0)
def Dev.objNames(s:Dev)(o:du):Nat→Int→List (Int×Int)
 | 0,_=>[]
 | f+1,k=>if IntKind.i64.wrap (s.load (o.2.2+1+k))≠0 then (k,IntKind.i64.wrap (s.load (o.2.2+1+k)))::s.objNames o f (k+1) else s.objNames o f (k+1)
def Dev.objs(s:Dev)(c:Cfg)(b:Blk):Nat→Int→List (du×Int)
 | 0,_=>[]
 | f+1,at_=>if b.place c b.used≤at_ then [] else
   if (s.objOf c b at_).2≠0 then [((0,0,at_),(s.objOf c b at_).2)]
   else s.objOf c b at_::s.objs c b f (at_+((s.objOf c b at_).1.1+1))
theorem gE{c:Cfg}(hc:bC c){k:Int}(hk:0≤k∧k≤2):24<c.frm k∧c.frm k+(2 - k)*c.space≤c.words∧c.words≤20000∧c.active+2+c.roots≤c.frm k∧c.frm k≤c.words:=by
 have h1:=hc.act
 have h2:=words_b hc
 have:=hc.r1;have:=hc.r2;have:=hc.l1;have:=hc.l2;have:=hc.s1;have:=hc.s2
 have h3:=dU (n:=c.root c.roots) (by simp only[Cfg.root];omega)
 have h4:=dU (n:=c.space) (by omega)
 simp only[Cfg.words,Cfg.frm,Cfg.root] at*
 rcases (by omega:k=0∨k=1∨k=2) with rfl | rfl | rfl<;>omega
theorem jX{c:Cfg}{b:Blk}(hc:bC c)(hb:fg c b){w:Int}(h:b.has c w=true):c.frm b.act≤w∧w<c.frm b.act+b.used∧w<20000∧24<w:=by
 have h1:=hb.act
 have h2:=hb.used
 have h3:=gE hc (k:=b.act) (by omega)
 have:=hc.s1
 unfold Blk.has at h
 simp only[Bool.and_eq_true,decide_eq_true_eq] at h
 rcases (by omega:b.act=0∨b.act=1) with e | e<;>(rw[e] at h h3 ⊢;omega)
def pn:Option Nat→Value
 | none=> .pointer none
 | some b=> .pointer (some ⟨b,0,none⟩)
abbrev pnE(x:Option Nat):List Value:=[pn x]
abbrev wE(v:Int):List Value:=[w64 v]
abbrev mP(k:Option Nat×Int):List Value:=[pn k.1,i64 k.2]
theorem lv(x:Option Nat):aV (pn x)=true:=by cases x<;>rfl
theorem gy:m3 1 pnE:=⟨fun _=>rfl,fun x=>by simp[pnE,lv]⟩
theorem ER:m3 1 wE:=⟨fun _=>rfl,fun _=>rfl⟩
theorem xh:m3 2 mP:=⟨fun _=>rfl,fun x=>by show(aV (pn x.1)&&(aV (i64 x.2)&&true))=true;rw[lv];rfl⟩
structure Nd where
 wd:Int
 rf:Int
 names:List (Option Nat)
 nums:List Int
 nv:Value
 vv:Value
inductive Un where
 | used (c1 c2:Nat) (was:Int)
 | num (c1 c2 c3 n:Nat) (i was:Int)
 | name (c1 c2 c3 n:Nat) (i:Int) (was:Option Nat)
 | root (c1 c2 c3:Nat) (i:Int) (was:Option Nat)
structure Md where
 c:Cfg
 roots:List (Option Nat)
 used:Int
 hs:List (Option Nat)
 o:Bool
 seen:List (Option Nat×Int)
 fresh:List (Option Nat)
 undo:List Un
 left:Int
 thn:Int
 ids:List Nat
 g:Nat→Nd
def Un.fn:Un→FuncId
 | .used .. =>149
 | .num .. =>153
 | .name .. =>155
 | .root .. =>156
def Un.caps:Un→List Value
 | .used a b _=>[ptr a,ptr b]
 | .num a b c .. =>[ptr a,ptr b,ptr c]
 | .name a b c .. =>[ptr a,ptr b,ptr c]
 | .root a b c .. =>[ptr a,ptr b,ptr c]
abbrev unE(u:Un):List Value:=[.func (.func u.fn) #[] u.caps.toArray]
theorem m7:m3 1 unE:=⟨fun _=>rfl,fun _=>rfl⟩
def Un.rows(bm:Nat):Un→List HP
 | .used a b was=>[row a [i64 was] 3,row b [ptr bm] 30]
 | .num a b c n i was=>[row a [w64 was] 26,row b [ptr n] 136,row c [i64 i] 3]
 | .name a b c n i was=>[row a [pn was] 136,row b [ptr n] 136,row c [i64 i] 3]
 | .root a b c i was=>[row a [pn was] 136,row b [ptr bm] 30,row c [i64 i] 3]
def iZ(bm:Nat)(l:List Un):HP:=grp (l.map fun u=>grp (u.rows bm))
abbrev VN(v:Value)(l:List (Option Nat)):HP:=jY 136 1 pnE 0 (v,l)
abbrev VW(v:Value)(l:List Int):HP:=jY 26 1 wE 0 (v,l)
abbrev VK(v:Value)(l:List (Option Nat×Int)):HP:=jY 198 2 mP 0 (v,l)
abbrev VU(v:Value)(l:List Un):HP:=jY 1 1 unE 0 (v,l)
abbrev kj(b:Nat)(x:Nd):HP:=row b [i64 x.wd,i64 x.rf,x.nv,x.vv] 143
def NdA(b:Nat)(x:Nd):HP:=grp [kj b x,VN x.nv x.names,VW x.vv x.nums]
def cB(ids:List Nat)(g:Nat→Nd):HP:=grp (ids.map fun b=>NdA b (g b))
abbrev cx(bm:Nat)(M:Md)(rv hv sv fv uv:Value):HP:=row bm [i64 M.c.log,i64 M.c.roots,i64 M.c.space,rv,i64 M.used,hv,.bool M.o,sv,fv,uv,i64 M.left,i64 M.thn] 45
abbrev mdL(bm:Nat)(M:Md)(rv hv sv fv uv:Value):List HP:=[cx bm M rv hv sv fv uv,VN rv M.roots,VN hv M.hs,VK sv M.seen,VN fv M.fresh,VU uv M.undo,cB M.ids M.g,iZ bm M.undo]
def dI(bm:Nat)(M:Md):HP:=hex fun (v:Value×Value×Value×Value×Value)=>grp (mdL bm M v.1 v.2.1 v.2.2.1 v.2.2.2.1 v.2.2.2.2)
def dE(g:Nat→Nd)(b:Nat)(x:Nd):Nat→Nd:=fun k=>if k=b then x else g k
theorem fI(g:Nat→Nd)(b:Nat)(x:Nd):dE g b x b=x:=by simp[dE]
theorem jC{g:Nat→Nd}{b k:Nat}{x:Nd}(h:k≠b):dE g b x k=g k:=by simp[dE,h]
theorem mL{α:Type}:∀ (l:List α) (i:Nat) (a:α),l[i]? =some a→l.Perm (a::l.eraseIdx i)
 | [],_,_,h=>by simp at h
 | x::l,0,a,h=>by simp at h;subst h;exact .refl _
 | x::l,i+1,a,h=>by
   simp at h
   exact((mL l i a h).cons x).trans (.swap ..)
theorem sN{A C:List HP}:∀ {l:List HP} {h:fV},(∀ k,sat A k→sat C k)→sat (l++A) h→sat (l++C) h
 | [],_,f,a=>f _ a
 | X::l,_,f,a=>eB (fun _=>sN (l:=l) f) a
section
variable {B:World} {n:Nat} {D:List Deferred} {σ:Env} {H Fr:List HP} {P:Program} {K:Act→World→Prop} {bm b:Nat} {M:Md} {x:Nd} {ids:List Nat} {g:Nat→Nd} {w:World} {rv hv sv fv uv:Value} {us us':List Un} {u:Un}
theorem fC(h:∀ rv hv sv fv uv,GO B n D σ (cx bm M rv hv sv fv uv::VN rv M.roots::VN hv M.hs::VK sv M.seen::VN fv M.fresh::VU uv M.undo::cB M.ids M.g::iZ bm M.undo::Fr) K):GO B n D σ (dI bm M::Fr) K:=fun a w st=>by
 obtain⟨x,hx⟩:=st.holds.hex
 exact h _ _ _ _ _ a w ⟨st.toStA,hx.grp⟩
theorem bj(h:Holds B (cx bm M rv hv sv fv uv::VN rv M.roots::VN hv M.hs::VK sv M.seen::VN fv M.fresh::VU uv M.undo::cB M.ids M.g::iZ bm M.undo::Fr) w):Holds B (dI bm M::Fr) w:=Holds.unhex (rv,hv,sv,fv,uv) (Holds.ungrp (l:=mdL bm M rv hv sv fv uv) h)
theorem xp(h:GO B n D σ (kj b x::VN x.nv x.names::VW x.vv x.nums::Fr) K):GO B n D σ (NdA b x::Fr) K:=fun a w st=>h a w ⟨st.toStA,st.holds.grp⟩
theorem ic(h:Holds B (kj b x::VN x.nv x.names::VW x.vv x.nums::Fr) w):Holds B (NdA b x::Fr) w:=
 Holds.ungrp (l:=[kj b x,VN x.nv x.names,VW x.vv x.nums]) h
theorem lQ{l l':List HP}(p:l.Perm l')(h:Holds B (grp l::Fr) w):Holds B (grp l'::Fr) w:=h.map fun _=>ke fun _=>qE p
theorem vK{A:HP}{l:List HP}(h:Holds B (grp (A::l)::Fr) w):Holds B (A::grp l::Fr) w:=h.grp.map fun _=>eB fun _=>pL
theorem kX{A:HP}{l:List HP}(h:Holds B (A::grp l::Fr) w):Holds B (grp (A::l)::Fr) w:=Holds.ungrp (l:=A::l) (h.map fun _=>eB fun _=>pI)
theorem jf(hb:b∈ids)(h:Holds B (cB ids g::Fr) w):Holds B (NdA b (g b)::cB (ids.erase b) g::Fr) w:=
 vK (lQ (l:=ids.map fun b=>NdA b (g b)) (l':=NdA b (g b)::(ids.erase b).map fun b=>NdA b (g b)) ((List.perm_cons_erase hb).map fun b=>NdA b (g b)) h)
theorem CE(hn:ids.Nodup)(hb:b∈ids)(h:Holds B (NdA b x::cB (ids.erase b) g::Fr) w):Holds B (cB ids (dE g b x)::Fr) w:=by
 have e:cB (ids.erase b) g=cB (ids.erase b) (dE g b x):=by
  unfold cB
  congr 1
  refine List.map_congr_left fun k hk=> ?_
  have hne:k≠b:=fun e=>by subst e;exact(List.Nodup.not_mem_erase hn) hk
  rw[jC hne]
 rw[e] at h
 refine lQ (l:=NdA b x::(ids.erase b).map fun k=>NdA k (dE g b x k)) ?_ (kX h)
 have h2:=((List.perm_cons_erase hb).map fun k=>NdA k (dE g b x k)).symm
 rw[List.map_cons,fI] at h2
 exact h2
theorem ki(hb:b∈ids)(h:Holds B (NdA b (g b)::cB (ids.erase b) g::Fr) w):Holds B (cB ids g::Fr) w:=
 lQ (l:=NdA b (g b)::(ids.erase b).map fun k=>NdA k (g k)) ((List.perm_cons_erase hb).map fun k=>NdA k (g k)).symm (kX h)
theorem nK(hb:b∈ids)(h:GO B n D σ (kj b (g b)::VN (g b).nv (g b).names::VW (g b).vv (g b).nums::cB (ids.erase b) g::Fr) K):GO B n D σ (cB ids g::Fr) K:=
 aK (fun _ hw=>jf hb hw) (xp h)
theorem nw(hb:b∈ids)(h:Holds B (kj b (g b)::VN (g b).nv (g b).names::VW (g b).vv (g b).nums::cB (ids.erase b) g::Fr) w):Holds B (cB ids g::Fr) w:=ki hb (ic h)
theorem qT(hn:ids.Nodup)(hb:b∈ids)(h:Holds B (kj b x::VN x.nv x.names::VW x.vv x.nums::cB (ids.erase b) g::Fr) w):Holds B (cB ids (dE g b x)::Fr) w:=CE hn hb (ic h)
theorem CF(hnew:b∉ids)(h:Holds B (NdA b x::cB ids g::Fr) w):Holds B (cB (b::ids) (dE g b x)::Fr) w:=by
 have e:cB ids g=cB ids (dE g b x):=by
  unfold cB
  congr 1
  refine List.map_congr_left fun k hk=> ?_
  have hne:k≠b:=fun e=>by subst e;exact hnew hk
  rw[jC hne]
 rw[e] at h
 have h2:=kX h
 unfold cB
 rw[List.map_cons,fI]
 exact h2
theorem pK(hb:b∈ids)(i:Nat)(e:H[i]? =some (cB ids g))(h:Holds B H w):∃ cs,w.heap[b]? =some (.cells cs 143 (0,0)):=
 ⟨_,(jf hb (h.front i e)).grp.read 0 rfl⟩
theorem Cy{cs:List Value}{T:TypeId}(h:Holds B (row b cs T::cB ids g::Fr) w):b∉ids:=fun hb=>by
 obtain⟨h1,h2,d,s1,s2,ha,hr⟩:=h.sat
 have h3:Holds B (cB ids g::Fr) {w with heap:=w.heap}:=h.tail
 have key:∃ o,h2 b=some o:=by
  have p:=((List.perm_cons_erase hb).map fun k=>NdA k (g k))
  obtain⟨k1,k2,_,t1,_,hk,_⟩:=pI (ke (fun _=>qE p) hr)
  obtain⟨j1,j2,_,u1,_,hj,_⟩:=hk
  exact⟨_,t1 _ _ (u1 _ _ hj)⟩
 obtain⟨o,ho⟩:=key
 rcases d b with e | e
 ·rw[show h1 b=some _ from ha] at e;cases e
 ·rw[ho] at e;cases e
theorem xY(h:Holds B Fr w):Holds B (iZ bm []::Fr) w:=Holds.ungrp (l:=[]) h
theorem qd(h:Holds B (iZ bm us::(u.rows bm++Fr)) w):Holds B (iZ bm (us++[u])::Fr) w:=by
 have e:(us++[u]).map (fun u=>grp (u.rows bm))=us.map (fun u=>grp (u.rows bm))++[grp (u.rows bm)]:=by simp
 unfold iZ
 rw[e]
 refine Holds.ungrp ?_
 rw[List.append_assoc]
 have h2:Holds B ((us.map fun u=>grp (u.rows bm))++(u.rows bm++Fr)) w:=h.grp
 exact h2.map fun _=>sN fun _=>pL
theorem Ar{i:Nat}(hu:us[i]? =some u)(h:Holds B (iZ bm us::Fr) w):Holds B (grp (u.rows bm)::iZ bm (us.eraseIdx i)::Fr) w:=by
 refine vK (lQ (l:=us.map fun u=>grp (u.rows bm)) (l':=grp (u.rows bm)::(us.eraseIdx i).map fun u=>grp (u.rows bm)) ?_ h)
 have:=(mL us i u hu).map fun u=>grp (u.rows bm)
 exact this
theorem Cl{i:Nat}(hu:us[i]? =some u)(h:Holds B (grp (u.rows bm)::iZ bm (us.eraseIdx i)::Fr) w):Holds B (iZ bm us::Fr) w:=by
 refine lQ (l:=grp (u.rows bm)::(us.eraseIdx i).map fun u=>grp (u.rows bm)) ?_ (kX (l:=(us.eraseIdx i).map fun u=>grp (u.rows bm)) h)
 exact((mL us i u hu).map fun u=>grp (u.rows bm)).symm
theorem dw{α:Type}{T:TypeId}{f:α→Value}(he:m3 1 (fun x=>[f x])){q:Option Addr}{cap:Nat}{xs:List α}(i:Nat)(e:H[i]? =some (jY T 1 (fun x=>[f x]) 0 (.slice q xs.length cap,xs))):SlR B H (.slice q xs.length cap) (xs.map f):=by
 obtain⟨q',cap',e1,h1⟩:=(p9 (B:=B) he i e).ex
 injection e1 with e1 _ e2;subst e1;subst e2
 refine⟨q,cap,by simp,fun w hw j hj=> ?_⟩
 have hj':j<xs.length:=by simpa using hj
 obtain⟨b,off,rfl,hl,hc⟩:=h1 w hw j [f xs[j]] (by simp[hj'])
 refine⟨b,off,rfl,?_⟩
 have:=hc 0 (by decide)
 simp only[Nat.mul_one,Nat.add_zero] at this
 rw[this];simp[hj']
section
variable {d:Option Tmp} {ty:TypeId} {p:String} {af:Array Edge} {gd:Option (Nat×Bool)}
theorem gF{α:Type}{f:α→Value}{t T:TypeId}{x y:Operand}{b off i m cap:Nat}{q:Option Addr}{xs:List α}{v:α}(ht:∀ w,(sizeOf t).run P w= .ok 1 w)(hq:q=some ⟨b,off,none⟩)(hx:evO σ x=some (.pointer (some ⟨b,off+i,none⟩)))(hy:evO σ y=some (f v))(hv:aV (f v)=true)(hi:i<xs.length):
 Chg P B σ (jY T 1 (fun x=>[f x]) 0 (.slice q m cap,xs)::Fr) ⟨d,.store t x y,ty,p,af,gd⟩ (fun _ H'=>H'=jY T 1 (fun x=>[f x]) 0 (.slice q m cap,xs.set i v)::Fr):=by
 subst hq
 intro a w kn hh
 rcases jk hh with ⟨h1,_,_⟩ | ⟨bd,pre,rest,k,hk,h1,h3⟩
 ·subst h1;simp at hi
 ·injection h1 with h1 h2 h4
  injection h1 with h1
  injection h1 with h5 h6 _
  subst h5;subst h6;subst h2;subst h4
  have em:∀ l:List α,l.flatMap (fun x=>[f x])=l.map f:=fun l=>by induction l<;>simp_all
  rw[em] at h3
  obtain⟨r,w',e1,u,e2,H',e4,e5⟩:=aR (P:=P) (σ:=σ) (H:=row b (pre++xs.map f++rest) T::Fr) (b:=b) (k:=pre.length+i) (d:=d) (ty:=ty) (p:=p) (af:=af) (g:=gd) ht hx hy hv (by simp;omega) a w kn h3
  refine⟨r,w',e1,u,e2,_,rfl,?_⟩
  subst e4
  have e:(pre++xs.map f++rest).set (pre.length+i) (f v)=pre++(xs.set i v).flatMap (fun x=>[f x])++rest:=by
   rw[em,List.append_assoc,List.set_append_right _ _ (by omega),Nat.add_sub_cancel_left,List.set_append_left _ _ (by simpa using hi),List.map_set,List.append_assoc]
  rw[e] at e5
  exact fH (k:=k) (by simp) aa hk aa e5
theorem sP{t e:TypeId}{sz:Nat}(ht:∀ w,(underlying t).run P w= .ok (.pointer e) w)(hs:∀ w,(sizeOf e).run P w= .ok sz w)(h0:sz≠0){q q':Option Nat}{w:World}(hq:∀ b,q=some b→∃ cs T,w.heap[b]? =some (.cells cs T (0,0)))(hq':∀ b,q'=some b→∃ cs T,w.heap[b]? =some (.cells cs T (0,0)))(dd:Nat):(Op.equalIn (dd+1) t (pn q) (pn q')).run P w= .ok (decide (q=q')) w:=by
 rw[Op.equalIn];simp only[Sem.run_bind,ht,Result.andThen_ok]
 cases q with
 | none=>cases q'<;>rfl
 | some b=>
   cases q' with
   | none=>rfl
   | some b'=>
     simp only[pn,Sem.run_bind,hs,Result.andThen_ok]
     rw[if_pos h0]
     by_cases hb:b=b'
     ·subst hb;rw[run_sameAddr_same];simp
     ·obtain⟨cs,T,h1⟩:=hq b rfl
      obtain⟨cs',T',h2⟩:=hq' b' rfl
      rw[run_sameAddr_other w (fun h=>hb (by injection h)) h1 h2]
      simp[hb]
theorem EC{op:BinOp}{x y:Operand}{q q':Option Nat}{c:Bool}{t u e:TypeId}{sz:Nat}(i:Nat)(hi:H[i]? =some (cB ids g))(ht:∀ w,(underlying t).run P w= .ok (.pointer e) w)(hs:∀ w,(sizeOf e).run P w= .ok sz w)(h0:sz≠0)(hx:evO σ x=some (pn q))(hy:evO σ y=some (pn q'))(hq:∀ b,q=some b→b∈ids)(hq':∀ b,q'=some b→b∈ids)(hc:(match op with | .eql=>some (decide (q=q')) | .neq=>some (!decide (q=q')) | _=>none)=some c):
 Evs P B σ H ⟨d,.binOp op t x y u,ty,p,af,gd⟩ (.bool c):=by
 intro a w kn hh
 have key:=sP (P:=P) (t:=t) (e:=e) ht hs h0 (q:=q) (q':=q') (w:=w) (fun b hb=>(pK (hq b hb) i hi hh).imp fun _ h=>⟨_,h⟩) (fun b hb=>(pK (hq' b hb) i hi hh).imp fun _ h=>⟨_,h⟩) 9999
 have key2:(Op.equal t (pn q) (pn q')).run P w= .ok (decide (q=q')) w:=key
 cases op<;>first
  | (cases hc;done)
  | (have e:=Option.some.inj (show some (decide (q=q'))=some c from hc);subst e;simp only[execOp,kn.eval hx,kn.eval hy];cases q<;>cases q'<;>simp[binOp,eqGuard,pn] at key2 ⊢<;>simp[key2])
  | (have e:=Option.some.inj (show some (!decide (q=q'))=some c from hc);subst e;simp only[execOp,kn.eval hx,kn.eval hy];cases q<;>cases q'<;>simp[binOp,eqGuard,pn] at key2 ⊢<;>simp[key2])
theorem oM{op:BinOp}{x y:Operand}{q:Option Nat}{c:Bool}{t u e:TypeId}(ht:∀ w,(underlying t).run P w= .ok (.pointer e) w)(hx:evO σ x=some (pn q))(hy:evO σ y=some (.pointer none))(hc:(match op with | .eql=>some q.isNone | .neq=>some (!q.isNone) | _=>none)=some c):
 Evs P B σ H ⟨d,.binOp op t x y u,ty,p,af,gd⟩ (.bool c):=by
 cases q with
 | none=>exact dq ht hx hy hc
 | some b=>exact dq ht hx hy hc
end
theorem cY{f:FuncId}{vs:Array Value}{v:Value}{H H1:List HP}(is js:List Nat)[n9 is H H1][n9 js H1 H](h:∀ w,Holds B H1 w→Calls P f vs w (bB B H1 v)):∀ w,Holds B H w→Calls P f vs w (bB B H v):=
 fun w hw=>(h w (hw.pk is)).mono fun _ _ ⟨h1,h2⟩=>⟨h1,h2.pk js⟩
end
def ixI{α:Type}[DecidableEq α](l:List α)(x:α):Int:=if x∈l then (l.idxOf x:Int) else -1
theorem Bj{α:Type}[DecidableEq α]{l:List α}{x:α}{k:Nat}(h:l[k]? =some x)(hn:∀ j,j<k→l[j]? ≠some x):ixI l x=k:=by
 have hm:x∈l:=List.mem_of_getElem? h
 unfold ixI
 rw[if_pos hm]
 have h1:l.idxOf x<l.length:=List.idxOf_lt_length_of_mem hm
 have h2:l[l.idxOf x]? =some x:=by rw[List.getElem?_eq_getElem h1,List.getElem_idxOf h1]
 rcases Nat.lt_trichotomy (l.idxOf x) k with h3 | h3 | h3
 ·exact absurd h2 (hn _ h3)
 ·rw[h3]
 ·have hk:k<l.length:=(List.getElem?_eq_some_iff.1 h).1
  have h4:l[k]=x:=(List.getElem?_eq_some_iff.1 h).2
  exfalso
  have:=List.not_of_lt_findIdx (p:=(·==x)) (xs:=l) (i:=k) (by simpa [List.idxOf] using h3)
  simp[h4] at this
theorem Bh{α:Type}[DecidableEq α]{l:List α}{x:α}{k:Nat}(hk:l.length≤k)(h:∀ j,j<k→l[j]? ≠some x):ixI l x= -1:=by
 unfold ixI
 rw[if_neg fun hm=> ?_]
 obtain⟨j,hj,e⟩:=List.getElem_of_mem hm
 exact h j (by omega) (by rw[List.getElem?_eq_getElem hj,e])
theorem Bi{α:Type}[DecidableEq α](l:List α)(x:α): -1≤ixI l x∧ixI l x≤l.length∧(0≤ixI l x↔x∈l):=by
 unfold ixI
 split
 ·rename_i h
  exact⟨by omega,by have:=List.idxOf_lt_length_of_mem h;omega,⟨fun _=>h,fun _=>by omega⟩⟩
 ·rename_i h
  exact⟨by omega,by omega,⟨fun h2=>absurd h2 (by decide),fun h2=>absurd h2 h⟩⟩
end Go.Proofs.YtlcibdhmgclfjaaGreat
