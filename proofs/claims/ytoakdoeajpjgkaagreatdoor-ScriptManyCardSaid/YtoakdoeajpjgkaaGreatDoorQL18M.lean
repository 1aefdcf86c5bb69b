/- ScriptMany. Conditions: none. -/
import Derived.Test.YtoakdoeajpjgkaaGreatDoorQL18Mo
import Derived.Test.YtoakdoeajpjgkaaGreatDoorTie
import Derived.Test.YtoakdoeajpjgkaaGreatDoorCards
import Derived.SevenTiedAt
open Go.Proofs.Tryz
set_option linter.unusedSimpArgs false
set_option linter.unusedVariables false
set_option linter.unnecessarySimpa false
set_option linter.unusedSectionVars false
namespace Go.Proofs.YtoakdoeajpjgkaaGreatDoor
set_option linter.unusedSimpArgs false
set_option linter.unusedVariables false
open Go
abbrev Aa:List UInt8:=[111,112,101,110]
abbrev o7:LO:=(Aa,some ((17:Nat),[]))
theorem qD:oU Aa (some ((17:Nat),[])):=by
 have h:=BL (k:=17) (by decide) (ns:=[]) rfl (by simp) (pre:=[]) (sep:=[32]) (tl:=[]) (by decide) (by decide) (by decide) (by decide) (by decide) (by decide) (by decide)
 exact h
theorem nC:∀ k:Nat,Lib.repeatL [111,112,101,110,10] k=fF ((List.replicate k o7).map Prod.fst)
 | 0=>rfl
 | k+1=>by rw[List.replicate_succ,List.map_cons];show _++Lib.repeatL _ k=(Aa++[10])++fF _;rw[nC k];rfl
theorem rH:∀ k:Nat,Lib.repeatL [10] k=fF ((List.replicate k (([],none):LO)).map Prod.fst)
 | 0=>rfl
 | k+1=>by rw[List.replicate_succ,List.map_cons];show _++Lib.repeatL _ k=([]++[10])++fF _;rw[rH k];rfl
theorem qs(k:Nat):(List.replicate k o7).filterMap Prod.snd=List.replicate k (((17:Nat):Int),[]):=by
 induction k with
 | zero=>rfl
 | succ k ih=>rw[List.replicate_succ,List.filterMap_cons];simp only;rw[ih];rfl
theorem u7(k:Nat):(List.replicate k (([],none):LO)).filterMap Prod.snd=[]:=by
 induction k with
 | zero=>rfl
 | succ k ih=>rw[List.replicate_succ,List.filterMap_cons];exact ih
theorem r7{k:Nat}(h:k≤400):cS (Lib.repeatL [111,112,101,110,10] k)=(List.replicate k (((17:Nat):Int),[]),0,0):=by
 have hl:=Lib.repeatL_length [111,112,101,110,10] k
 simp only[List.length_cons,List.length_nil] at hl
 rw[nC] at hl ⊢
 rw[nM (fun p hp=>by rw[(List.mem_replicate.1 hp).2];exact qD) (by omega) (by rw[qs];simpa using h) (by simp;omega),qs]
theorem lQ{k:Nat}(h:400<k)(h2:k≤404):cS (Lib.repeatL [111,112,101,110,10] k)=([],401,11):=by
 have hl:=Lib.repeatL_length [111,112,101,110,10] k
 simp only[List.length_cons,List.length_nil] at hl
 rw[nC] at hl ⊢
 have e:=nk [] ((List.replicate k o7).map Prod.fst) fun l hl x hx=>by
  obtain⟨p,hp,rfl⟩:=List.mem_map.1 hl
  rw[(List.mem_replicate.1 hp).2] at hx
  exact qD.nl x hx
 rw[List.append_nil] at e
 have e2:List.replicate k o7=List.replicate 400 o7++(o7::List.replicate (k - 401) o7):=by
  rw[←List.replicate_succ,List.replicate_append_replicate];congr 1;omega
 have e3:=kq (List.replicate 400 o7) p0 (fun p hp=>by rw[(List.mem_replicate.1 hp).2];exact qD) (by decide) (by simp only[p0,List.length_replicate];decide) (by rw[qs];simp only[p0,List.length_replicate,List.length_nil];decide)
 rw[qs] at e3
 have e4:itl stP (spl 10 (fF ((List.replicate k o7).map Prod.fst))) p0=(false,401,List.replicate 400 (((17:Nat):Int),[]),[],401,11):=by
  rw[e,e2,List.map_append,List.append_assoc,vq _ _ _ _ (by rw[e3]),e3,List.map_cons,List.cons_append]
  have h9:stP Aa (p0.1+((List.replicate 400 o7).length:Int),p0.2.1++List.replicate 400 (((17:Nat):Int),[]),p0.2.2)=(false,401,List.replicate 400 (((17:Nat):Int),[]),[],401,11):=by
   unfold stP
   simp only
   rw[if_neg (by decide),if_pos (by simp only[p0,List.length_append,List.length_replicate,List.length_nil])]
   simp only[List.length_replicate]
   rfl
  rw[wT (by rw[h9]),h9]
 unfold cS
 rw[if_neg (by omega),e4]
 simp
theorem sM{k:Nat}(h:k≤65536):cS (Lib.repeatL [10] k)=([],0,0):=by
 have hl:=Lib.repeatL_length [10] k
 simp only[List.length_cons,List.length_nil] at hl
 rw[rH] at hl ⊢
 rw[nM (fun p hp=>by rw[(List.mem_replicate.1 hp).2];exact se) (by omega) (by rw[u7];simp) (by simp;omega),u7]
theorem pX{k:Nat}(h:65536<k):cS (Lib.repeatL [10] k)=([],0,11):=by
 have hl:=Lib.repeatL_length [10] k
 simp only[List.length_cons,List.length_nil] at hl
 unfold cS
 rw[if_pos (by omega)]
theorem Ct(kd:Int):(decide (kd≥0)&&decide (kd<18)||(kD (kd,[])==[63]))=true:=by
 by_cases h:kd<0∨18≤kd
 ·have e:kD (kd,[])=[63]:=by unfold kD;rw[if_pos h]
  rw[e];simp
 ·have:(0:Int)≤kd∧kd<18:=by omega
  simp[this]
section
variable {B:World} {n:Nat} {D:List Deferred} {σ:Env} {Fr:List HP} {K:Act→World→Prop} {sv:Value} {l:List Cmd}
theorem Au(h:∀ q cap,sv= .slice q l.length cap→GO B n D σ (ke 0 (sv,l)::Fr) K):GO B n D σ (ke 0 (sv,l)::Fr) K:=fun a w st=>by
 obtain⟨rs,h1,h2⟩:=n7 st.holds
 obtain⟨q,cap,e⟩:=yC h2
 refine h q cap ?_ a w st
 rw[e, ←h1.1,List.length_map]
end
theorem o6(B:World)(Fr:List HP)[dj Fr B](gl:GL B)(fg:FG B)(n:Nat)(hn:n≤255)(kd:Int):
 ∀ w,Holds B Fr w→Calls Tryz.prog 5 [.int .u8 n,i64 kd].toArray w (aZ B Fr (.bool true)):=by
 refine ap func5 aa ntmps5 aa ?_
 obtain⟨k,hk⟩:∃ k,k=395+n%10:=⟨_,rfl⟩
 obtain⟨j,hj⟩:∃ j,j=65530+n%12:=⟨_,rfl⟩
 refine ac (ab (kPa aa aa (ad (ac (ac (ab (ax aa (ar call11 aa) (uz _ _ gl fg) .free aa aa ?_)))))))
 refine kPv (bu aa) aa (ad (bE aa (rfl) (aq (ac (ab (kPm aa aa (kPv (fP (c:=((n%10:Nat):Int)) aa aa (by decide) ((jH 10 (by omega)).trans (by omega))) aa (kPv (bK runUnderlying5 runUnderlying3 aa) aa (kPv (ib (c:=(k:Int)) aa aa ((gp (by omega)).trans (by omega))) aa (kPa aa aa (ad ?_)))))))))))
 refine ac (ab (kPm aa aa (ax aa (ar call19 aa) (uV [111,112,101,110,10] k (by decide) (by omega)) .free aa aa ?_)))
 refine aI aa (ar call14 aa) (nN _ _ gl fg (Lib.repeatL [111,112,101,110,10] k)) .free aa aa ?_
 rintro _ _ ⟨s1,hs1,rfl,rfl⟩
 refine Au fun q1 c1 hq1=> ?_
 subst hq1
 refine kPm aa aa (kPv (aA aa aa) aa (kPv (aA aa aa) aa (kPv (aA aa aa) aa (kPa aa aa (kPa aa aa (kPa aa aa (ad (ao [8,7,6,5,4,0,1] rfl (ac (ac ?_))))))))))
 obtain⟨pl,hpl⟩:∃ pl:Nat,pl=(cS (Lib.repeatL [111,112,101,110,10] k)).1.length:=⟨_,rfl⟩
 rw[←hpl]
 obtain⟨pe,hpe⟩:∃ pe:Int,pe=(cS (Lib.repeatL [111,112,101,110,10] k)).2.2:=⟨_,rfl⟩
 obtain⟨pt,hpt⟩:∃ pt:Int,pt=(cS (Lib.repeatL [111,112,101,110,10] k)).2.1:=⟨_,rfl⟩
 rw[←hpe, ←hpt]
 have hcase:(k≤400∧pe=0∧pl=k)∨(400<k∧pe=11∧pt=401∧pl=0):=by
  by_cases h4:k≤400
  ·exact .inl ⟨h4,by rw[hpe,r7 h4],by rw[hpl,r7 h4];simp⟩
  ·exact .inr ⟨by omega,by rw[hpe,lQ (by omega) (by omega)],by rw[hpt,lQ (by omega) (by omega)],by rw[hpl,lQ (by omega) (by omega)];rfl⟩
 have h51:((decide ((k:Int)>400)&&((pe !=11)||(pt !=401)||decide ((pl:Int)>0)))||(decide ((k:Int)≤400)&&((pe !=0)||((pl:Int) !=k))))=false:=by
  rcases hcase with ⟨h1,h2,h3⟩ | ⟨h1,h2,h3,h4⟩
  ·subst h2;subst h3;simp;omega
  ·subst h2;subst h3;subst h4;simp;omega
 refine ab (kPm aa aa (kPv (am aa aa aa) aa (kPm aa aa ?_)))
 apply dq (tp:=37) (t:=25) (σ1:=[(25,_),(8,_),(7,_),(6,_),(5,_),(4,_),(0,_),(1,_)]) 12 rfl (aC rfl)
 ·intro hg1
  refine aj aa (ak aa) (.on aa aa (ae hg1)) aa aa (aj aa (am aa aa aa) (.on aa aa (ae hg1)) aa aa (aj aa (ak aa) (.on aa aa (ae hg1)) aa aa ?_))
  apply fK (tp:=31) (t:=28) (σ1:=[(28,_),(25,_),(8,_),(7,_),(6,_),(5,_),(4,_),(0,_),(1,_)]) 3 rfl (aC rfl)
  ·intro hg2
   refine aj aa (ak aa) (.on aa aa (ae hg2)) aa aa (aj aa (am aa aa aa) (.on aa aa (ae hg2)) aa aa (aj aa (aD aa hg2 aa) (.on aa aa (ae hg1)) aa aa ?_))
   exact aT aa (aC aa) (eM hg2)
  ·intro hg2
   refine al aa (.on aa aa (ag hg2)) aa (al aa (.on aa aa (ag hg2)) aa (aj aa (au aa hg2 aa) (.on aa aa (ae hg1)) aa aa ?_))
   exact aT aa (aC aa) (eK hg2)
  refine aj aa (ak aa) (.on aa aa (ae hg1)) aa aa ?_
  apply fK (tp:=36) (t:=32) (σ1:=[(32,_),(25,_),(8,_),(7,_),(6,_),(5,_),(4,_),(0,_),(1,_)]) 4 rfl (aC rfl)
  ·intro hg3
   refine aj aa (ak aa) (.on aa aa (ae hg3)) aa aa (aj aa (bH aa runUnderlying24 ⟨_,rfl⟩ rfl) (.on aa aa (ae hg3)) aa aa (aj aa (am aa aa aa) (.on aa aa (ae hg3)) aa aa (aj aa (aD aa hg3 aa) (.on aa aa (ae hg1)) aa aa ?_)))
   exact aT aa (aC aa) (eM hg3)
  ·intro hg3
   refine al aa (.on aa aa (ag hg3)) aa (al aa (.on aa aa (ag hg3)) aa (al aa (.on aa aa (ag hg3)) aa (aj aa (au aa hg3 aa) (.on aa aa (ae hg1)) aa aa ?_)))
   exact aT aa (aC aa) (eK hg3)
  refine kPv (au aa hg1 aa) aa ?_
  exact aT aa (aC aa) (cE hg1)
 ·intro hg1
  refine al aa (.on aa aa (ag hg1)) aa (al aa (.on aa aa (ag hg1)) aa (al aa (.on aa aa (ag hg1)) aa (al aa (.und aa aa) aa (al aa (.und aa aa) aa (al aa (.on aa aa (ag hg1)) aa (al aa (.on aa aa (ag hg1)) aa (al aa (.und aa aa) aa (al aa (.und aa aa) aa (al aa (.und aa aa) aa (al aa (.on aa aa (ag hg1)) aa (kPv (aD aa hg1 aa) aa ?_)))))))))))
  exact aT aa (aC aa) (cF hg1)
 refine kPm aa aa ?_
 apply fK (tp:=51) (t:=38) (σ1:=[(38,_),(8,_),(7,_),(4,_),(0,_),(1,_)]) 13 rfl (aC rfl)
 ·intro hg4
  refine aj aa (ak aa) (.on aa aa (ae hg4)) aa aa (aj aa (am aa aa aa) (.on aa aa (ae hg4)) aa aa (aj aa (ak aa) (.on aa aa (ae hg4)) aa aa ?_))
  apply dq (tp:=50) (t:=41) (σ1:=[(41,_),(38,_),(8,_),(7,_),(4,_),(0,_),(1,_)]) 9 rfl (aC rfl)
  ·intro hg5
   refine aj aa (ak aa) (.on aa aa (ae hg5)) aa aa (aj aa (am aa aa aa) (.on aa aa (ae hg5)) aa aa (aj aa (ak aa) (.on aa aa (ae hg5)) aa aa ?_))
   apply fK (tp:=49) (t:=44) (σ1:=[(44,_),(41,_),(38,_),(8,_),(7,_),(4,_),(0,_),(1,_)]) 5 rfl (aC rfl)
   ·intro hg6
    refine aj aa (ak aa) (.on aa aa (ae hg6)) aa aa (aj aa (bH aa runUnderlying24 ⟨_,rfl⟩ rfl) (.on aa aa (ae hg6)) aa aa (aj aa (ak aa) (.on aa aa (ae hg6)) aa aa (aj aa (am aa aa aa) (.on aa aa (ae hg6)) aa aa (aj aa (aD aa hg6 aa) (.on aa aa (ae hg5)) aa aa ?_))))
    exact aT aa (aC aa) (eM hg6)
   ·intro hg6
    refine al aa (.on aa aa (ag hg6)) aa (al aa (.on aa aa (ag hg6)) aa (al aa (.on aa aa (ag hg6)) aa (al aa (.on aa aa (ag hg6)) aa (aj aa (au aa hg6 aa) (.on aa aa (ae hg5)) aa aa ?_))))
    exact aT aa (aC aa) (eK hg6)
   refine aj aa (au aa hg5 aa) (.on aa aa (ae hg4)) aa aa ?_
   exact aT aa (aC aa) (cE hg5)
  ·intro hg5
   refine al aa (.on aa aa (ag hg5)) aa (al aa (.on aa aa (ag hg5)) aa (al aa (.on aa aa (ag hg5)) aa (al aa (.und aa aa) aa (al aa (.und aa aa) aa (al aa (.und aa aa) aa (al aa (.und aa aa) aa (al aa (.on aa aa (ag hg5)) aa (aj aa (aD aa hg5 aa) (.on aa aa (ae hg4)) aa aa ?_))))))))
   exact aT aa (aC aa) (cF hg5)
  refine kPv (aD aa hg4 aa) aa ?_
  exact aT aa (aC aa) (eM hg4)
 ·intro hg4
  refine al aa (.on aa aa (ag hg4)) aa (al aa (.on aa aa (ag hg4)) aa (al aa (.on aa aa (ag hg4)) aa (al aa (.und aa aa) aa (al aa (.und aa aa) aa (al aa (.und aa aa) aa (al aa (.und aa aa) aa (al aa (.und aa aa) aa (al aa (.und aa aa) aa (al aa (.und aa aa) aa (al aa (.und aa aa) aa (al aa (.on aa aa (ag hg4)) aa ?_)))))))))))
  refine kPv (au aa hg4 aa) aa ?_
  exact aT aa (aC aa) (eK hg4)
 refine ad (bE aa (h51) (aq (ac (ab (kPm aa aa (kPv (fP (c:=((n%12:Nat):Int)) aa aa (by decide) ((jH 12 (by omega)).trans (by omega))) aa (kPv (bK runUnderlying5 runUnderlying3 aa) aa (kPv (ib (c:=(j:Int)) aa aa ((gp (by omega)).trans (by omega))) aa (ax aa (ar call19 aa) (uV [10] j (by decide) (by omega)) .free aa aa ?_)))))))))
 refine aI aa (ar call14 aa) (nN _ _ gl fg (Lib.repeatL [10] j)) .free aa aa ?_
 rintro _ _ ⟨s2,hs2,rfl,rfl⟩
 refine kPm aa aa (kPv (aA aa aa) aa (kPv (aA aa aa) aa (kPv (aA aa aa) aa (kPa aa aa (kPa aa aa (ad (ao [8,7,4,0,1] rfl (ac (ab (kPm aa aa (kPv (aP aa (tk _ aa)) aa ?_)))))))))))
 refine kPb (aE zeroValue32 aa) aa fun b9=> ?_
 refine kPs (ay (vs:=_) sizeOf32 aa aa aa (by first | rfl | exact eC (by assumption)) rfl) rfl ?_;refine ad ?_;refine ac ?_
 obtain⟨pe2,hpe2⟩:∃ pe2:Int,pe2=(cS (Lib.repeatL [10] j)).2.2:=⟨_,rfl⟩
 obtain⟨pt2,hpt2⟩:∃ pt2:Int,pt2=(cS (Lib.repeatL [10] j)).2.1:=⟨_,rfl⟩
 rw[←hpe2, ←hpt2]
 have hcase2:(j≤65536∧pe2=0∧pt2=0)∨(65536<j∧pe2=11∧pt2=0):=by
  by_cases h4:j≤65536
  ·exact .inl ⟨h4,by rw[hpe2,sM h4],by rw[hpt2,sM h4]⟩
  ·exact .inr ⟨by omega,by rw[hpe2,pX (by omega)],by rw[hpt2,pX (by omega)]⟩
 have h73:((pt2==0)&&((pe2==11)==decide (((n%12:Nat):Int)>6)))=true:=by
  rcases hcase2 with ⟨h1,h2,h3⟩ | ⟨h1,h2,h3⟩
  ·subst h2;subst h3;simp;omega
  ·subst h2;subst h3;simp;omega
 refine ab (kPm aa aa (kPv (am aa aa aa) aa (kPm aa aa ?_)))
 apply dq (tp:=73) (t:=66) (σ1:=[(66,_),(9,_),(4,_),(1,_)]) 7 rfl (aC rfl)
 ·intro hg7
  refine aj aa (ak aa) (.on aa aa (ae hg7)) aa aa (aj aa (am aa aa aa) (.on aa aa (ae hg7)) aa aa (aj aa (ak aa) (.on aa aa (ae hg7)) aa aa (aj aa (fP (c:=((n%12:Nat):Int)) aa aa (by decide) ((jH 12 (by omega)).trans (by omega))) (.on aa aa (ae hg7)) aa aa (aj aa (am aa aa aa) (.on aa aa (ae hg7)) aa aa (aj aa (uq runUnderlying4 aa aa aa) (.on aa aa (ae hg7)) aa aa (kPv (au aa hg7 aa) aa ?_))))))
  exact aT aa (aC aa) (cE hg7)
 ·intro hg7
  refine al aa (.on aa aa (ag hg7)) aa (al aa (.on aa aa (ag hg7)) aa (al aa (.on aa aa (ag hg7)) aa (al aa (.on aa aa (ag hg7)) aa (al aa (.on aa aa (ag hg7)) aa (al aa (.on aa aa (ag hg7)) aa (kPv (aD aa hg7 aa) aa ?_))))))
  exact aT aa (aC aa) (cF hg7)
 refine kPm aa aa (aj aa (ak aa) (.on aa aa (ae h73)) aa aa (aj aa (am aa aa aa) (.on aa aa (ae h73)) aa aa (aj aa (ak aa) (.on aa aa (ae h73)) aa aa ?_)))
 apply dq (tp:=80) (t:=77) (σ1:=[(77,_),(74,_),(9,_),(4,_)]) 3 rfl (aC rfl)
 ·intro hg8
  refine aj aa (ak aa) (.on aa aa (ae hg8)) aa aa (aj aa (am aa aa aa) (.on aa aa (ae hg8)) aa aa (aj aa (au aa hg8 aa) (.on aa aa (ae h73)) aa aa ?_))
  exact aT aa (aC aa) (cE hg8)
 ·intro hg8
  refine al aa (.on aa aa (ag hg8)) aa (al aa (.on aa aa (ag hg8)) aa (aj aa (aD aa hg8 aa) (.on aa aa (ae h73)) aa aa ?_))
  exact aT aa (aC aa) (cF hg8)
 refine aj aa (ak aa) (.on aa aa (ae h73)) aa aa ?_
 apply fK (tp:=85) (t:=81) (σ1:=[(81,_),(74,_),(4,_)]) 4 rfl (aC rfl)
 ·intro hg9
  refine aj aa (ah isAgg32 sizeOf32 aa aa) (.on aa aa (ae hg9)) aa aa ?_
  refine ax aa (ar call13 aa) (sV _ _ gl fg kd none 0 [] (by decide) (fun n h=>by cases h) SlR.nil (fun i h=>absurd h (Nat.not_lt_zero _))) (.on aa aa (ae hg9)) aa aa ?_
  refine aj aa (qR aa aa aa) (.on aa aa (ae hg9)) aa aa (aj aa (aD aa hg9 aa) (.on aa aa (ae h73)) aa aa ?_)
  exact aT aa (aC aa) (eM hg9)
 ·intro hg9
  refine al aa (.on aa aa (ag hg9)) aa (al aa (.on aa aa (ag hg9)) aa (al aa (.on aa aa (ag hg9)) aa (aj aa (au aa hg9 aa) (.on aa aa (ae h73)) aa aa ?_)))
  exact aT aa (aC aa) (eK hg9)
 refine kPv (au aa h73 aa) aa (kPa aa aa (ad (aB ?_)))
 exact aw results5 aa (fun w hw=>⟨by rw[Ct kd],(hw.dp [0,0,0])⟩)
theorem mC(W:World)(n:Int)(wn:(Lit.int .u8 n).wf=true)(k:Int)(wk:(Lit.int .i64 k).wf=true)(hsh:W.ShapedOpen Tryz.prog)(hL:laidMet Tryz.prog Rows.scriptManyRow.laid W):
 Calls Tryz.prog 5 #[.int .u8 n,.int .i64 k] W fun e w'=>e= .returned (.bool true)∧RowKit.Below W.heap.size W w':=by
 have hb:=bounds_u8 wn
 obtain⟨n,rfl⟩:=Int.eq_ofNat_of_zero_le hb.1
 exact BO (o6 W [old W] (CB hsh hL) (CL hL.tail.tail.tail.tail.tail.tail) n (by omega) k)
namespace scriptMany
open Go.ChangeShapes Go.WideShapes Go.ChangeAt Go.RowKit
set_option maxRecDepth 100000 in
theorem BN(os:Os)(started:os.Started)(H:Type)(enc:TypeId×Value→H):
 ReturnsInHanded {} Tryz.checked os 5 .any (fun w args=>(Rows.scriptManySpec.pre enc Tryz.prog Tryz.f5 Rows.scriptManyRow.domain false w args∧laidMetH Tryz.prog Rows.scriptManyRow.laid w)∧sizedMet enc Tryz.prog Tryz.f5 (OpenSpec.ofChange Rows.scriptManySpec) false w args) (Rows.scriptManySpec.post enc Tryz.prog Tryz.f5 false true false false):=by
 refine qm (C:=Tryz.checked) (laid:=Rows.scriptManyRow.laid) Tryz.ownKnobs started (by kernel_rfl) func5
  (ChangeSpec.witness_shaped (enc:=enc) (C:=Tryz.checked) (os:=os) (X:=fun w _=>laidMetH Tryz.prog Rows.scriptManyRow.laid w) false (World.laidAll Tryz.prog os Rows.scriptManyRow.laid) #[.int .u8 0,.int .i64 0] 8 (World.laidAll_os _ _ _)
   (World.shaped_of_ZipB (by kernel_rfl) (by kernel_rfl)) (by kernel_rfl) (by kernel_rfl) (by kernel_rfl)
   (by rw[MakeChecks.laidMetH_plain _ _ _ (by kernel_rfl)];exact laidMet_laidAll _ (by kernel_rfl) (by kernel_rfl))) ?_
 intro W base args ds gs before hval0 hW hcnd hL hsh
 rw[MakeChecks.laidMetH_plain _ _ _ (by kernel_rfl)] at hL
 have hval:∀ (j:Nat) t v,Tryz.f5.params[j]? =some t→args[j]? =some v→Value.okWide Tryz.prog W .any base t v:=hval0
 have hW':=hW
 obtain⟨p,q,hA0,hV,rfl,hfz,hnd⟩:=hW
 have hA:DataW.TrodAll enc Tryz.prog W 0 (fun _=>true) true Tryz.f5.params.toList args.toList ds p:=hA0
 rw[Tryz.params5] at hA hval
 obtain⟨v0,vs0,d0,ds0,p0,q0,hargs,rfl,rfl,h0,r0⟩:=trodAll_cons hA
 obtain⟨v1,vs1,d1,ds1,p1,q1,rfl,rfl,rfl,h1,r1⟩:=trodAll_cons r0
 obtain⟨rfl,rfl,rfl⟩:=trodAll_nil r1
 obtain rfl:args= #[v0,v1]:=by cases args;simp_all
 obtain⟨rfl,rfl⟩:=trodVars_none hV
 have k0:=h0
 have lt0:∀ x∈p0,x.block<W.heap.size:=by obtain⟨m,hm⟩:=k0;exact DataW.trod_lt m _ _ _ hm
 obtain⟨a0,rfl,w0⟩:∃ a,v0= .int .u8 a∧(Lit.int .u8 a).wf=true:=by
  obtain⟨a,e,_,_,wa⟩:=open_int underlying5 (hval 0 5 v0 rfl rfl) h0
  exact⟨a,e,wa⟩
 have k1:=h1
 have lt1:∀ x∈p1,x.block<W.heap.size:=by obtain⟨m,hm⟩:=k1;exact DataW.trod_lt m _ _ _ hm
 obtain⟨a1,rfl,w1⟩:∃ a,v1= .int .i64 a∧(Lit.int .i64 a).wf=true:=by
  obtain⟨a,e,_,_,wa⟩:=open_int underlying3 (hval 1 3 v1 rfl rfl) h1
  exact⟨a,e,wa⟩
 clear hA0 hval0
 refine(mC W a0 w0 a1 w1 hsh hL).mono fun e W' ⟨he,bel⟩=> ?_
 subst he
 exact⟨_,rfl,_,_,_,[],_,[],hW',trodAll_mk1 (shut_bool underlying4 _),(trodAll_cons_mk (Below.trod Tryz.laidOut (by kernel_rfl) (of_decide_eq_true (by kernel_rfl)) k0 bel lt0) (trodAll_cons_mk (Below.trod Tryz.laidOut (by kernel_rfl) (of_decide_eq_true (by kernel_rfl)) k1 bel lt1) trodAll_mk0)),rfl,bel.frame _,fun h=>by cases h⟩
theorem C0:Rows.scriptManyRow.holds Tryz.pinned (OpenSpec.ofChange Rows.scriptManySpec):=
 OpenClaim.holds_of_wide 5 Tryz.f5 rfl rfl rfl rfl rfl rfl rfl ⟨rfl,rfl,rfl,rfl,rfl⟩ rfl rfl rfl rfl rfl named func5 CM C5 wrap
  (fun os started H enc _=>BN os started H enc)
theorem proved:Rows.ScriptManyCardSaid:=
 Claim7.holds_tied_plain_at .later [] [.data,.data,.data,.data,.sentinel,.sentinel,.data,.pinned] true (true, "f90e334a796904a9246829541802d2bcc979710ad5f61b09d7205d88cafc73d6") true C0 (fun _ h=>by cases h) (by kernel_rfl) (fun _ h=>by cases h) scriptMany_row_tie rfl ⟨rfl,rfl⟩ (by kernel_rfl) rfl
  (fun f fn hf hfn=>by
   obtain rfl:f=5:=Option.some.inj ((show Tryz.prog.funcNamed "tumulus/tumuluslaw18.ScriptMany" =some 5 by kernel_rfl).symm.trans hf) |>.symm
   obtain rfl:fn=Tryz.f5:=(Option.some.inj (Tryz.func5.symm.trans hfn)).symm
   exact⟨by kernel_rfl,fun j t ht=>by
    rw[Tryz.params5] at ht
    have hm:t∈[5,3]:=by simpa using Array.mem_of_getElem? ht
    have hall:([5,3].all fun u=> !Tryz.prog.wantsStandIn u)=true:=by kernel_rfl
    exact(show Tryz.prog.wantsStandIn t=false by simpa using List.all_eq_true.1 hall t hm)⟩)
  (by kernel_rfl)
end scriptMany
end Go.Proofs.YtoakdoeajpjgkaaGreatDoor
