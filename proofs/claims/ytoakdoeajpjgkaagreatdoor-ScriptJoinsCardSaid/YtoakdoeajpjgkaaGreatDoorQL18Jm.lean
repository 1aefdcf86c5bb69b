/- Part of a law's texts. Conditions: none. -/
import Derived.Test.YtoakdoeajpjgkaaGreatDoorQL18Jl
import Derived.ProofKit
import Derived.OpenShut
import Derived.ChangeOld
import Derived.Below
import Derived.ChangeSlices
import Derived.Deep.Grids
import Derived.Deep.Strs
open Go.Proofs.Tryz
set_option linter.all false
namespace Go.Proofs.YtoakdoeajpjgkaaGreatDoor
open Go
def hs2:List (Int×Int):=[(0,1),(0,2)]
theorem hh2:∀ h∈[((0:Int),(1:Int)),(0,2)],(0≤h.1∧h.1<256)∧(0≤h.2∧h.2<256):=fun h hm=>by
 simp only[List.mem_cons,List.not_mem_nil,or_false] at hm
 rcases hm with rfl | rfl<;>exact⟨by decide,by decide⟩
theorem DZ{B:World}{H:List HP}{b:Nat}{x y z u:Value}{T1:TypeId}{U:List Value→List HP}[eX H b [x,y,z,u] T1 U]{cap:Nat}:SlN B H (.slice (some ⟨b,0,none⟩) 2 cap) 2 [[x,y],[z,u]]:=
 SlN.row (cs:=[[x,y],[z,u]]) fun i c h=>by
  cases i with
  | zero=>
    cases h
    refine⟨rfl,fun j hj=> ?_⟩
    rcases j with _ | _ | j
    ·rfl
    ·rfl
    ·omega
  | succ i=>
    cases i with
    | zero=>
      cases h
      refine⟨rfl,fun j hj=> ?_⟩
      rcases j with _ | _ | j
      ·rfl
      ·rfl
      ·omega
    | succ i=>cases h
theorem xf{α:Type}{B:World}{σ:Env}{H:List HP}{P:Program}{m:Nat}{enc:α→List Value}(he:lC m enc){d:Option Tmp}{ty:TypeId}{p:String}{af:Array Edge}{g:Option (Nat×Bool)}{t e:TypeId}{x y:Operand}{v u:α}{xv yv z:Value}(ht:∀ w,(underlying t).run P w= .ok (.slice e) w)(hs:∀ w,(sizeOf e).run P w= .ok m w)(hz:∀ w,(zeroValue e).run P w= .ok z w)(hm0:(0<m∧m≤1000)∧z.cells.size=m)(hx:evO σ x=some xv)(hv:xv.cells=(enc v).toArray)(hy:evO σ y=some yv)(hu:yv.cells=(enc u).toArray):
 Chg P B σ H ⟨d,.buildSlice t 2 #[(0,x),(1,y)],ty,p,af,g⟩ (fun r H'=>∃ b,r= .slice (some ⟨b,0,none⟩) 2 2∧H'=row b (enc v++enc u) e::H):=by
 intro a w kn hh
 refine⟨.value (.slice (some ⟨w.heap.size,0,none⟩) 2 2),{w with heap:=w.heap.push (.cells (enc v++enc u).toArray e)},?_,_,.inl aa,_,⟨_,rfl,rfl⟩,by simpa [row] using hh.new _⟩
 have h1:m≠0:=by omega
 have h2:¬ 16777216<2*m:=by omega
 have hl:(enc v).length=m:=he.len v
 have hl2:(enc u).length=m:=he.len u
 have key:∀ (k:Nat) (vs:List Value) (a:Array Value) (j:Nat),k+vs.length≤a.size→(List.foldl (fun (cs:Array Value) (x:Value×Nat)=>cs.setIfInBounds (k+x.2) x.1) a vs.zipIdx)[j]? =if k≤j∧j<k+vs.length then vs[j - k]? else a[j]? :=by
  intro k vs a j h
  have:=kQ vs k a h j
  rw[←this]
  congr 1
  have hz:vs.zipIdx k=vs.zipIdx.map fun x=>(x.1,k+x.2):=by
   apply List.ext_getElem?
   intro i
   simp[List.getElem?_zipIdx]
   cases vs[i]?<;>simp
  rw[hz,List.foldl_map]
 have hsz:∀ (g:Nat→Nat) (l:List (Value×Nat)) (a:Array Value),(List.foldl (fun (cs:Array Value) (x:Value×Nat)=>cs.setIfInBounds (g x.2) x.1) a l).size=a.size:=by
  intro g l
  induction l with
  | nil=>intro a;rfl
  | cons x l ih=>intro a;rw[List.foldl_cons,ih];simp
 simp[execOp,Instr.buildSlice,ht,hs,Instr.fill,cG,hz,kn.eval hx,hv,kn.eval hy,hu,h1,h2,hl,hl2]
 generalize hA:Array.map (fun x=>z.cells[x%z.cells.size]!) (Array.range (2*m))=A
 have hAs:A.size=2*m:=by rw[←hA];simp
 rw[if_neg (by omega),if_neg (by omega),if_neg (by rw[hsz (fun x=>x) _ A];omega)]
 generalize hF:List.foldl (fun (cs:Array Value) (x:Value×Nat)=>cs.setIfInBounds x.snd x.fst) A (enc v).zipIdx=F
 have hFs:F.size=2*m:=by rw[←hF,hsz (fun x=>x) _ A];exact hAs
 have hF2:∀ j,F[j]? =if j<m then (enc v)[j]? else A[j]? :=fun j=>by
  have:=kQ (enc v) 0 A (by omega) j
  rw[←hF,this]
  simp[hl]
 have e9:List.foldl (fun (cs:Array Value) (x:Value×Nat)=>cs.setIfInBounds (m+x.snd) x.fst) F (enc u).zipIdx=(enc v++enc u).toArray:=by
  apply Array.ext_getElem?
  intro j
  rw[key m (enc u) F j (by omega),hF2,show(enc v++enc u).toArray[j]? =(enc v++enc u)[j]? by simp,List.getElem?_append,hl,hl2]
  by_cases h3:j<m
  ·rw[if_neg (by omega),if_pos h3,if_pos h3]
  ·rw[if_neg h3]
   by_cases h4:j<m+m
   ·rw[if_pos (by omega),if_neg h3]
   ·rw[if_neg (by omega),if_neg h3,List.getElem?_eq_none (by omega),Array.getElem?_eq_none (by omega)]
 simp only[e9]
 rfl
theorem AA(pa:Nat):okB ((iP pa [] 136).format c48) (fun _ s=>okB (gT c48 [(0,1),(0,2)] s []) fun out sF=>out==[40,42]&&iK (sF.block c48) ⟨0,5,[0]⟩ 0&&okB (eG c48 ⟨0,5,[0]⟩ (dq [] [40,42] 0) [40,42] 0 sF) fun n1 s1=>n1==some 0&&okB (fG c48 (dq [] [40,42] 0) 1 0 0 s1) fun _ s2=>iK (s2.block c48) ⟨0,5,[0]⟩ 0&&s2.reachSize c48 ⟨0,5,[0]⟩ []==0&&s2.reachSize c48 ⟨0,5,[0]⟩ [42]==3)=true:=by kernel_rfl
theorem Az(pa bd:Nat):okB ((iP pa [] 136).format c48) (fun _ s=>okB (gT c48 [(0,1)] s []) fun out sF=>out==[40]&&iK (sF.block c48) ⟨0,2,[0]⟩ 0&&okB (eG c48 ⟨0,2,[0]⟩ (dq [] [40] 0) [40] 0 sF) fun n1 s1=>n1==some 0&&okB (fG c48 (dq [] [40] 0) 1 0 0 s1) fun _ s2=>iK (s2.block c48) ⟨0,2,[0]⟩ 0&&okB ((eA bd c48 ⟨0,2,[0]⟩ [0]).step s2) fun r s3=> !r.1&&okB (r.2.step s3) fun r2 _=>r2.1&&iK (r2.2.block,0) ⟨1,0,[0]⟩ 0)=true:=by kernel_rfl
def Cw(o:Option bE)(w v:Int):Bool:=match o with
 | some X=>(bK X.went w).getD 0==v
 | none=>false
theorem Ay(pa bd:Nat):okB ((iP pa [] 136).format c48) (fun _ s=>okB (gT c48 [(0,1),(0,2)] s []) fun out sF=>out==[40,42]&&iK (sF.block c48) ⟨0,5,[0]⟩ 0&&okB (eG c48 ⟨0,5,[0]⟩ (dq [] [40,42] 0) [40,42] 0 sF) fun n1 s1=>n1==some 0&&okB (fG c48 (dq [] [40,42] 0) 1 0 0 s1) fun _ s2=>iK (s2.block c48) ⟨0,5,[0]⟩ 0&&(bT bd c48 s2).n==0&&okB (eK bd c48 ⟨bT bd c48 s2,0,0,[],[]⟩ s2 [42]) fun r s3=>r.2.1==0&&Cw r.1 42 88&&iK (s3.block c48) ⟨1,3,[0]⟩ 0)=true:=by kernel_rfl
theorem vP(B:World)(Fr:List HP):
 ∀ w,Holds B Fr w→Calls Tryz.prog 201 [].toArray w (aZ B Fr (.bool true)):=by
 refine an func201 aa ntmps201 aa (ac (ab (kPa aa aa (ad (ac (ac (ab (aw aa (au call216 aa) (vQ _ _) .free aa aa ?_))))))))
 refine kPv (bz aa) aa (ad (bH aa (rfl) (ar (ac (ab (kPv (aQ aa (dl _ _ _ aa aa aa)) aa (kPb (aC zeroValue134 aa) aa fun b1=>(kPs (ax (vs:=_) sizeOf134 aa aa aa aa aa) aa (ad (ac (ab ?_)))))))))))
 refine kPv (ag isAgg134 sizeOf134 aa aa) aa ?_
 refine aH aa (au call74 aa) (dW _ _ ⟨3,1,8⟩ ga none 0 [] (by decide) (fun _ h=>absurd h (Nat.not_lt_zero _)) SlR.nil) .free aa aa ?_
 rintro _ _ ⟨bd,pa,N,s0,hN,hf,rfl,rfl⟩
 obtain rfl:N=56:=by have:(N:Int)=56:=hN.trans (by decide);omega
 have hfm:=pf ga hN hf
 have hu0:=il (kv pa 56) ga hf
 have hev:=bU (AB pa) hf
 simp only[Bool.and_eq_true,beq_iff_eq] at hev
 refine kPm aa aa (kPv (aA aa aa) aa (kPv (aA aa aa) aa (kPa aa aa (kPa aa aa (ad (am [3,2,1,0] rfl (ac (ac (ab (kPm aa aa (kPv (bz aa) aa ?_)))))))))))
 refine kPm aa aa (al aa (ak aa) (.on aa aa (ae aa)) aa aa (al aa (ag isAgg134 sizeOf134 aa aa) (.on aa aa (ae aa)) aa aa ?_))
 refine aw aa (au call130 aa) (bI (q:=aB) (fun Fr=>kV _ Fr _ s0 ⟨3,1,8⟩ ga hu0)) (.on aa aa (ae aa)) aa aa ?_
 refine al aa (ao aa aa aa) (.on aa aa (ae aa)) aa aa (kPv (aJ aa aa aa) aa (ad (am [19,2,1,0] rfl (bH aa (by rw[hev.1];rfl) (ar (ac (ab (kPm aa aa (kPv (ag isAgg134 sizeOf134 aa aa) aa ?_)))))))))
 refine aw aa (au call171 aa) (lN _ _ ⟨3,1,8⟩ ga 0 (by decide) (by decide)) .free aa aa ?_
 refine aH aa (au call145 aa) (oI _ _ bd s0 34 5 hfm.lim hu0 (by decide)) .free aa aa ?_
 rintro _ _ ⟨x1,s1,hm1,rfl,hl1,hn1,hu1,rfl⟩
 have hev2:=bU hev.2 hm1
 simp only[beq_iff_eq] at hev2
 refine ad (ac (ab (kPm aa aa (kPv (ag isAgg134 sizeOf134 aa aa) aa ?_))))
 refine aw aa (au call130 aa) (bI (q:=aB) (fun Fr=>kV _ Fr _ s1 ⟨3,1,8⟩ ga hu1)) .free aa aa ?_
 refine kPv (ao aa aa aa) aa (kPa aa aa (ad (am [0] rfl (az ?_))))
 exact aq results201 aa (fun w hh=>⟨by rw[hev2];rfl,(hh.dp [0,0])⟩)
theorem vO(B:World)(Fr:List HP):
 ∀ w,Holds B Fr w→Calls Tryz.prog 165 [].toArray w (aZ B Fr (.bool true)):=by
 refine an func165 aa ntmps165 aa (ac (ab (kPa aa aa (ad (ac (ac (ab (aw aa (au call201 aa) (vP _ _) .free aa aa ?_))))))))
 refine kPv (bz aa) aa (ad (bH aa (rfl) (ar (ac (ab (kPv (aQ aa (jh _ aa)) aa (kPv (aQ aa (hJ _ aa)) aa (kPv (aQ aa (hJ _ aa)) aa (kPb (xf pv (v:=(0,1)) (u:=(0,2)) runUnderlying190 sizeOf189 zeroValue189 ⟨⟨by decide,by decide⟩,rfl⟩ rfl aa aa aa) aa fun b11=>(aH aa (au call114 aa) (kM _ _ 0 0 40 ⟨by decide,by decide,by decide⟩ ⟨3,1,48⟩ tK [(0,1),(0,2)] (hh2) (by decide) (some ⟨b11,0,none⟩) _ DZ none 0 [] SlR.nil (fun _ h=>(by cases h)) (by decide) (fun _ h=>absurd h (Nat.not_lt_zero _)) 0 (by decide)) .free aa aa ?_))))))))))
 rintro _ _ ⟨bd,pa,N,s0,sF,out,hfm,hN,⟨hus0,hf⟩,hfill,hor⟩
 obtain rfl:=n48 hN
 have hev:=bU (bU (AA pa) hf) hfill
 simp only[Bool.and_eq_true,beq_iff_eq] at hev
 obtain⟨⟨rfl,e1⟩,e2⟩:=hev
 rw[ef e1] at hor
 rcases hor with ⟨n1,n2,s1,s2,ov,sv,hl1,hl2,hu2,hlm2,hn2,hov,hsv,rfl,rfl⟩ | ⟨s1,hl1,_⟩
 rotate_left
 ·have e3:=bU e2 hl1
  simp only[Bool.and_eq_true,beq_iff_eq] at e3
  exact absurd e3.1 (by simp)
 have e3:=bU e2 hl1
 simp only[Bool.and_eq_true,beq_iff_eq] at e3
 obtain⟨e4,e5⟩:=e3
 obtain rfl:n1=0:=by injection e4
 have e6:=bU e5 hl2
 simp only[Bool.and_eq_true,beq_iff_eq] at e6
 obtain⟨⟨e7,e8⟩,e9⟩:=e6
 rw[ef e7]
 refine aP [2] (cE fun qo co hqo hqi=> ?_)
 subst hqo
 obtain⟨bO,oO,rfl⟩:=hqi 0 (by decide)
 refine kPm aa aa (kPv (aA aa aa) aa (kPv (aA aa aa) aa (kPv (aA aa aa) aa (kPv (aA aa aa) aa (kPb (aC zeroValue134 aa) aa fun b2=>(kPb (aC zeroValue151 aa) aa fun b3=>(kPa aa aa (kPs (ax (vs:=_) sizeOf134 aa aa aa aa aa) aa ?_))))))))
 refine kPs (ax (vs:=_) sizeOf151 aa aa aa (by first | rfl | exact eh (by assumption)) rfl) rfl ?_;refine kPa aa aa ?_;refine ad ?_;refine am [4,1,3,2,0] rfl ?_;refine ac ?_;refine ac ?_;refine ab ?_;refine kPm aa aa ?_;refine kPv (df runUnderlying90 aa aa aa) aa ?_;refine kPm aa aa ?_;refine al aa (ak aa) (.on aa aa (ae aa)) aa aa ?_
 refine al aa (bD aa runUnderlying166 ⟨_,rfl⟩ rfl) (.on aa aa (ae aa)) aa aa (al aa (ao aa aa aa) (.on aa aa (ae aa)) aa aa (kPv (aJ aa aa aa) aa (kPm aa aa (al aa (ak aa) (.on aa aa (ae aa)) aa aa (al aa (ag isAgg134 sizeOf134 aa aa) (.on aa aa (ae aa)) aa aa ?_)))))
 refine al aa (ag isAgg151 sizeOf151 aa aa) (.on aa aa (ae aa)) aa aa ?_
 refine aH aa (au call154 aa) (sG _ _ bd ⟨3,1,48⟩ ⟨0,5,[0]⟩ sv hsv (.slice none 0 0) aa) (.on aa aa (ae aa)) aa aa ?_
 rintro _ _ ⟨c1,c2,c3,c4,rfl,rfl⟩
 refine al aa (nH runUnderlying224 ⟨_,_,_,rfl⟩ rfl aa aa) (.on aa aa (ae aa)) aa aa (kPv (aJ aa aa aa) aa (ad (am [30,4,1,3,2,0] rfl (bH aa (rfl) (ar (ac (aM (H':=aB bd s2::dJ 3 i64 0 (.slice (some ⟨bO,oO,none⟩) 2 co,[40,42])::row b3 [i64 0,i64 5,sv] 151::row b2 [i64 3,i64 1,i64 48] 134::cS 0 (sv,[0])::Fr) (fun w hh=>by have h:=((hh.dp [0,0,0,0,5]).pk [4,2]);exact h) (cW [0,1,2,3,4,5,6,7,8,9,10,11,12,13,14,15,16,17] [3,13,14] [6,7,8] [13] [row b2 [i64 3,i64 1,i64 48] 134,row b3 [i64 0,i64 5,sv] 151,dJ 3 i64 0 (.slice (some ⟨bO,oO,none⟩) 2 co,[40,42])] Tryz.mixed (by kernel_rfl) ?_))))))))
 refine aS aa aa aa (ak aa) .free aa (aS aa aa aa (ag isAgg134 sizeOf134 aa aa) .free aa ?_)
 refine aS aa aa aa (ag isAgg151 sizeOf151 aa aa) .free aa ?_
 refine aT aa aa (aw aa (au call90 aa) (nS B _ bd ⟨3,1,48⟩ iJ ⟨0,5,[0]⟩ sv ⟨⟨by decide,by decide⟩,⟨by decide,by decide⟩⟩ hsv s2 none 0 [] (fun _ h=>(by cases h)) (by decide) (fun _ h=>absurd h (Nat.not_lt_zero _)) SlR.nil) .free aa aa ?_)
 refine ad (c7 aa (aS aa aa aa (ao aa aa aa) .free aa (aS aa aa aa (ak aa) .free aa (aj aa aa aa (ak aa) (.on aa aa (ae (by rw[e8];rfl))) aa (aj aa aa aa (ag isAgg134 sizeOf134 aa aa) (.on aa aa (ae (by rw[e8];rfl))) aa ?_)))))
 refine aj aa aa aa (ag isAgg151 sizeOf151 aa aa) (.on aa aa (ae (by rw[e8];rfl))) aa ?_
 refine aS aa aa aa (ak aa) (.on aa aa (ae (by rw[e8];rfl))) aa (aS aa aa aa (cg runUnderlying166 sizeOf3 aa aa (by decide) (by decide)) (.on aa aa (ae (by rw[e8];rfl))) aa (aS aa aa aa (bP (v:=i64 42) isAgg3 (cP 1 aa) aa aa) (.on aa aa (ae (by rw[e8];rfl))) aa (aS aa aa aa (dh (c:=42) runUnderlying3 runUnderlying25 aa (by decide)) (.on aa aa (ae (by rw[e8];rfl))) aa (aT aa aa (cJ aa (f9 runUnderlying30 sizeOf25 zeroValue25 aa aa aa) (.on aa aa (ae (by rw[e8];rfl))) aa aa ?_)))))
 rintro _ _ ⟨b44,rfl,rfl⟩
 refine ad (cN (aP [1] (aT aa aa (aw aa (au call90 aa) (nS B _ bd ⟨3,1,48⟩ iJ ⟨0,5,[0]⟩ sv ⟨⟨by decide,by decide⟩,⟨by decide,by decide⟩⟩ hsv s2 (some ⟨b44,0,none⟩) 1 [42] (fun v h=>by rw[List.mem_singleton.1 h];decide) (by decide) (fun _ _=>⟨_,_,rfl⟩) (SlR.row (b:=b44) aa aa)) (.on aa aa (ae (by rw[e8];rfl))) aa aa ?_))))
 refine ad (c7 aa (aS aa aa aa (ao aa aa aa) (.on aa aa (ae (by rw[e8];rfl))) aa (aS aa aa aa (ay aa (by rw[e8];rfl) aa) .free aa (aS aa aa aa (bu aa) .free aa (cy (am [0] rfl (az ?_)))))))
 exact aq results165 aa (fun w hh=>⟨by rw[e9];rfl,(hh.dp [0,0,0,0,0,0])⟩)
theorem vN(B:World)(Fr:List HP):
 ∀ w,Holds B Fr w→Calls Tryz.prog 113 [].toArray w (aZ B Fr (.bool true)):=by
 refine an func113 aa ntmps113 aa (ac (ab (kPa aa aa (ad (ac (ac (ab (aw aa (au call165 aa) (vO _ _) .free aa aa ?_))))))))
 refine kPv (bz aa) aa (ad (bH aa (rfl) (ar (ac (ab (kPv (aQ aa (jh _ aa)) aa (kPv (aQ aa (hJ _ aa)) aa (kPb (pE pv (v:=(0,1)) runUnderlying190 sizeOf189 zeroValue189 ⟨⟨by decide,by decide⟩,rfl⟩ rfl aa) aa fun b13=>(aH aa (au call114 aa) (kM _ _ 0 0 40 ⟨by decide,by decide,by decide⟩ ⟨3,1,48⟩ tK [(0,1)] (hh1 ⟨by decide,by decide⟩ ⟨by decide,by decide⟩) (by decide) (some ⟨b13,0,none⟩) _ C1 none 0 [] SlR.nil (fun _ h=>(by cases h)) (by decide) (fun _ h=>absurd h (Nat.not_lt_zero _)) 0 (by decide)) .free aa aa ?_)))))))))
 rintro _ _ ⟨bd,pa,N,s0,sF,out,hfm,hN,⟨hus0,hf⟩,hfill,hor⟩
 obtain rfl:=n48 hN
 have hev:=bU (bU (Az pa bd) hf) hfill
 simp only[Bool.and_eq_true,beq_iff_eq] at hev
 obtain⟨⟨rfl,e1⟩,e2⟩:=hev
 rw[ef e1] at hor
 rcases hor with ⟨n1,n2,s1,s2,ov,sv,hl1,hl2,hu2,hlm2,hn2,hov,hsv,rfl,rfl⟩ | ⟨s1,hl1,_⟩
 rotate_left
 ·have e3:=bU e2 hl1
  simp only[Bool.and_eq_true,beq_iff_eq] at e3
  exact absurd e3.1 (by simp)
 have e3:=bU e2 hl1
 simp only[Bool.and_eq_true,beq_iff_eq] at e3
 obtain⟨e4,e5⟩:=e3
 obtain rfl:n1=0:=by injection e4
 have e6:=bU e5 hl2
 simp only[Bool.and_eq_true,beq_iff_eq] at e6
 obtain⟨e7,e8⟩:=e6
 rw[ef e7]
 refine aP [2] (cE fun qo co hqo hqi=> ?_)
 subst hqo
 obtain⟨bO,oO,rfl⟩:=hqi 0 (by decide)
 refine kPm aa aa (kPv (aA aa aa) aa (kPv (aA aa aa) aa (kPv (aA aa aa) aa (kPv (aA aa aa) aa (kPb (aC zeroValue134 aa) aa fun b2=>(kPb (aC zeroValue151 aa) aa fun b3=>(kPa aa aa (kPs (ax (vs:=_) sizeOf134 aa aa aa aa aa) aa ?_))))))))
 refine kPs (ax (vs:=_) sizeOf151 aa aa aa (by first | rfl | exact eh (by assumption)) rfl) rfl ?_;refine kPa aa aa ?_;refine ad ?_;refine am [4,1,3,2,0] rfl ?_;refine ac ?_;refine ac ?_;refine ab ?_;refine kPm aa aa ?_;refine kPv (df runUnderlying90 aa aa aa) aa ?_;refine kPm aa aa ?_;refine al aa (ak aa) (.on aa aa (ae aa)) aa aa ?_
 refine al aa (bD aa runUnderlying166 ⟨_,rfl⟩ rfl) (.on aa aa (ae aa)) aa aa (al aa (ao aa aa aa) (.on aa aa (ae aa)) aa aa (kPv (aJ aa aa aa) aa (ad (am [25,1,3,2,0] rfl (bH aa (rfl) (ar (ac (ab (kPm aa aa (kPv (ag isAgg134 sizeOf134 aa aa) aa ?_))))))))))
 refine kPv (ag isAgg151 sizeOf151 aa aa) aa ?_
 refine kPb (f9 runUnderlying30 sizeOf25 zeroValue25 aa aa aa) aa fun b29=>(aP [4] (aH aa (au call133 aa) (sm B _ bd ⟨3,1,48⟩ iJ ⟨0,2,[0]⟩ ⟨⟨by decide,by decide⟩,⟨by decide,by decide⟩⟩ sv hsv (some ⟨b29,0,none⟩) 1 [0] (by decide) (fun h=>by cases h) (SlR.row (b:=b29) aa aa)) .free aa aa ?_))
 rintro _ _ ⟨x,rfl,rfl⟩
 have hX0:fp (eA bd ⟨3,1,48⟩ ⟨0,2,[0]⟩ [0]):=lQ iJ ⟨⟨by decide,by decide⟩,⟨by decide,by decide⟩⟩ (by decide) (fun v h=>by rw[List.mem_singleton.1 h];decide) (fun v h=>by rw[List.mem_singleton.1 h];decide)
 refine kPa aa aa (ad (am [5,0] rfl (ac (ac (ab (kPm aa aa (kPv (df runUnderlying147 aa aa aa) aa (ad (bH aa (rfl) (ar (ac ?_)))))))))))
 refine ab (kPm aa aa (aP [0,4] ?_))
 refine aU aa (au call166 aa) (pz B _ x (eA bd ⟨3,1,48⟩ ⟨0,2,[0]⟩ [0]) hX0 s2 hu2) .free aa aa ?_ ?_
 rotate_left
 ·rintro _ _ ⟨s9,hm9,_⟩
  exact(jz e8 hm9).elim
 rintro _ _ ⟨r1,s3,hm1,rfl,rfl⟩
 have e9:=bU e8 hm1
 simp only[Bool.and_eq_true,Bool.not_eq_true'] at e9
 obtain⟨e10,e11⟩:=e9
 obtain⟨hX1,hu3,_,hbd1,_⟩:=rn hX0 hu2 hm1
 refine aM (H':=eY x r1.2::aB r1.2.bd s3::_) (fun w hh=>by rw[hbd1];exact hh) (kPm aa aa ?_)
 refine aU aa (au call166 aa) (pz B _ x r1.2 hX1 s3 hu3) .free aa aa ?_ ?_
 rotate_left
 ·rintro _ _ ⟨s9,hm9,_⟩
  exact(jz e11 hm9).elim
 rintro _ _ ⟨r2,s4,hm2,rfl,rfl⟩
 have e12:=bU e11 hm2
 simp only[Bool.and_eq_true] at e12
 obtain⟨hX2,hu4,_⟩:=rn hX1 hu3 hm2
 have hbl:r2.2.block=⟨1,0,[0]⟩:=congrArg Prod.fst (ef e12.2)
 rw[e10,e12.1]
 refine kPa aa aa (kPa aa aa (ad (ac (ab (kPm aa aa (kPv (bz aa) aa (kPm aa aa (al aa (ak aa) (.on aa aa (ae aa)) aa aa (kPv (ay aa aa aa) aa (kPm aa aa (al aa (ak aa) (.on aa aa (ae aa)) aa aa ?_)))))))))))
 refine aH aa (au call167 aa) (mI B _ x r2.2 hX2) (.on aa aa (ae aa)) aa aa ?_
 rintro _ _ ⟨bv5,hbv5,rfl,rfl⟩
 rw[hbl]
 refine al aa (hG runUnderlying151 (t:=3) (off:=1) aa isAgg3 aa aa) (.on aa aa (ae aa)) aa aa (al aa (ao aa aa aa) (.on aa aa (ae aa)) aa aa (kPv (ay aa aa aa) aa (kPm aa aa (al aa (ak aa) (.on aa aa (ae aa)) aa aa (aP [1] (aH aa (au call167 aa) (mI B _ x r2.2 hX2) (.on aa aa (ae aa)) aa aa ?_))))))
 rintro _ _ ⟨bv6,hbv6,rfl,rfl⟩
 rw[hbl]
 refine al aa (hG runUnderlying151 (t:=3) (off:=0) aa isAgg3 aa aa) (.on aa aa (ae aa)) aa aa (al aa (ao aa aa aa) (.on aa aa (ae aa)) aa aa (kPv (ay aa aa aa) aa (kPa aa aa (ad (am [0] rfl (az ?_))))))
 exact aq results113 aa (fun w hh=>⟨rfl,(hh.dp [0,0,0,0,0,0,0,0,0])⟩)
theorem vM(B:World)(Fr:List HP):
 ∀ w,Holds B Fr w→Calls Tryz.prog 70 [].toArray w (aZ B Fr (.bool true)):=by
 refine an func70 aa ntmps70 aa (ac (ab (kPa aa aa (ad (ac (ac (ab (aw aa (au call113 aa) (vN _ _) .free aa aa ?_))))))))
 refine kPv (bz aa) aa (ad (bH aa (rfl) (ar (ac (ab (kPv (aQ aa (jh _ aa)) aa (kPv (aQ aa (hJ _ aa)) aa (kPv (aQ aa (hJ _ aa)) aa (kPb (xf pv (v:=(0,1)) (u:=(0,2)) runUnderlying190 sizeOf189 zeroValue189 ⟨⟨by decide,by decide⟩,rfl⟩ rfl aa aa aa) aa fun b16=>(aH aa (au call114 aa) (kM _ _ 0 0 40 ⟨by decide,by decide,by decide⟩ ⟨3,1,48⟩ tK [(0,1),(0,2)] (hh2) (by decide) (some ⟨b16,0,none⟩) _ DZ none 0 [] SlR.nil (fun _ h=>(by cases h)) (by decide) (fun _ h=>absurd h (Nat.not_lt_zero _)) 0 (by decide)) .free aa aa ?_))))))))))
 rintro _ _ ⟨bd,pa,N,s0,sF,out,hfm,hN,⟨hus0,hf⟩,hfill,hor⟩
 obtain rfl:=n48 hN
 have hev:=bU (bU (Ay pa bd) hf) hfill
 simp only[Bool.and_eq_true,beq_iff_eq] at hev
 obtain⟨⟨rfl,e1⟩,e2⟩:=hev
 rw[ef e1] at hor
 rcases hor with ⟨n1,n2,s1,s2,ov,sv,hl1,hl2,hu2,hlm2,hn2,hov,hsv,rfl,rfl⟩ | ⟨s1,hl1,_⟩
 rotate_left
 ·have e3:=bU e2 hl1
  simp only[Bool.and_eq_true,beq_iff_eq] at e3
  exact absurd e3.1 (by simp)
 have e3:=bU e2 hl1
 simp only[Bool.and_eq_true,beq_iff_eq] at e3
 obtain⟨e4,e5⟩:=e3
 obtain rfl:n1=0:=by injection e4
 have e6:=bU e5 hl2
 simp only[Bool.and_eq_true,beq_iff_eq] at e6
 obtain⟨⟨e7,e14⟩,e8⟩:=e6
 rw[ef e7]
 refine aP [2] (cE fun qo co hqo hqi=> ?_)
 subst hqo
 obtain⟨bO,oO,rfl⟩:=hqi 0 (by decide)
 refine kPm aa aa (kPv (aA aa aa) aa (kPv (aA aa aa) aa (kPv (aA aa aa) aa (kPv (aA aa aa) aa (kPb (aC zeroValue134 aa) aa fun b2=>(kPb (aC zeroValue151 aa) aa fun b3=>(kPa aa aa (kPs (ax (vs:=_) sizeOf134 aa aa aa aa aa) aa ?_))))))))
 refine kPs (ax (vs:=_) sizeOf151 aa aa aa (by first | rfl | exact eh (by assumption)) rfl) rfl ?_;refine kPa aa aa ?_;refine ad ?_;refine am [4,1,3,2,0] rfl ?_;refine ac ?_;refine ac ?_;refine ab ?_;refine kPm aa aa ?_;refine kPv (df runUnderlying90 aa aa aa) aa ?_;refine kPm aa aa ?_;refine al aa (ak aa) (.on aa aa (ae aa)) aa aa ?_
 refine al aa (bD aa runUnderlying166 ⟨_,rfl⟩ rfl) (.on aa aa (ae aa)) aa aa (al aa (ao aa aa aa) (.on aa aa (ae aa)) aa aa (kPv (aJ aa aa aa) aa (kPm aa aa (al aa (aD (m:=_) dE aa aa) (.on aa aa (ae aa)) aa aa (al aa (ah isAgg3 aa aa) (.on aa aa (ae aa)) aa aa (al aa (ao aa aa aa) (.on aa aa (ae aa)) aa aa (kPv (aJ aa aa aa) aa (ad (am [33,4,1,2,0] rfl (bH aa (rfl) (ar ?_)))))))))))
 refine ac (ab (kPm aa aa (kPv (ag isAgg134 sizeOf134 aa aa) aa ?_)))
 refine aP [4] (aH aa (au call115 aa) (rq _ _ bd s2 ⟨3,1,48⟩ iJ) .free aa aa ?_)
 rintro _ _ ⟨bs,rfl,rfl⟩
 refine kPa aa aa (ad (ac (ac (ab (kN fun bl o1 o2=>(kPm aa aa (kPv (df runUnderlying146 aa aa aa) aa (kPm aa aa (al aa (ak aa) (.on aa aa (ae aa)) aa aa (al aa (aI aa) (.on aa aa (ae aa)) aa aa (al aa (aD (m:=_) ip aa aa) (.on aa aa (ae aa)) aa aa ?_)))))))))))
 refine al aa (ah isAgg168 aa aa) (.on aa aa (ae aa)) aa aa (al aa (df runUnderlying168 aa aa aa) (.on aa aa (ae aa)) aa aa (kPv (aJ aa aa aa) aa (ad (am [45,5,4,1,2,0] rfl (bH aa (rfl) (ar (ac (aM (fun w hh=>dU (S:=(⟨bT bd ⟨3,1,48⟩ s2,0,0,[],[]⟩:bC)) hh) (aM (H':=fC bs (⟨bT bd ⟨3,1,48⟩ s2,0,0,[],[]⟩:bC)::aB bd s2::row b2 [i64 3,i64 1,i64 48] 134::dJ 3 i64 0 (.slice (some ⟨bO,oO,none⟩) 2 co,[40,42])::cS 0 (sv,[0])::Fr) (fun w hh=>by have h:=(hh.dp [2,5]);exact h) (cW [0,1,2,3,4,5,6,7,8,9,10,11,12,13] [7,8] [0,1,2] [7] [row b2 [i64 3,i64 1,i64 48] 134,dJ 3 i64 0 (.slice (some ⟨bO,oO,none⟩) 2 co,[40,42])] Tryz.mixed (by kernel_rfl) ?_))))))))))
 refine aj aa aa aa (ak aa) .free aa (aj aa aa aa (ag isAgg134 sizeOf134 aa aa) .free aa ?_)
 refine aj aa aa aa (ak aa) .free aa (aS aa aa aa (ak aa) .free aa (aS aa aa aa (cg runUnderlying166 sizeOf3 aa aa (by decide) (by decide)) .free aa (aS aa aa aa (bP (v:=i64 42) isAgg3 (cP 3 aa) aa aa) .free aa (aS aa aa aa (dh (c:=42) runUnderlying3 runUnderlying25 aa (by decide)) .free aa (aT aa aa (kPb (f9 runUnderlying30 sizeOf25 zeroValue25 aa aa aa) aa fun b54=>(ad (cN (aT aa aa (aP [1,1] ?_))))))))))
 refine aU aa (au call116 aa) (ui B _ bs bd (⟨bT bd ⟨3,1,48⟩ s2,0,0,[],[]⟩:bC) ⟨3,1,48⟩ iJ s2 hu2 ⟨iB iJ,by rw[hn2];decide,rfl,rfl⟩ (some ⟨b54,0,none⟩) 1 [42] (by decide) (fun v h=>by rw[List.mem_singleton.1 h];decide) (SlR.row (b:=b54) aa aa)) .free aa aa ?_ ?_
 rotate_left
 ·rintro _ _ ⟨s9,hm9,_⟩
  exact(jz e8 hm9).elim
 rintro _ _ ⟨r,s3,hm3,hor⟩
 have e9:=bU e8 hm3
 simp only[Bool.and_eq_true,beq_iff_eq] at e9
 obtain⟨⟨e10,e11⟩,e12⟩:=e9
 rcases hor with ⟨h1,_⟩ | ⟨x,X,hX,h0,rfl,rfl⟩
 ·rw[h1] at e11;cases e11
 rw[hX] at e11
 have e13:(bK X.went 42).getD 0=88:=by simpa [Cw] using e11
 have hu3:=(yd iJ (fun v h=>by rw[List.mem_singleton.1 h];decide) (iB iJ) hu2 (by rw[hn2];decide) e14 hm3).1
 refine ad (c7 aa (aS aa aa aa (ak aa) .free aa (aS aa aa aa (aA aa aa) .free aa (aS aa aa aa (aA aa aa) .free aa (aS aa aa aa (bu aa) .free aa (aS aa aa aa (bu aa) .free aa (cy (am [7,6,4,1,2,0] rfl (ac (ab (kPm aa aa ?_)))))))))))
 refine kPv (ag isAgg134 sizeOf134 aa aa) aa ?_
 refine aP [2] (aH aa (au call117 aa) (fT _ _ _ _ ⟨3,1,48⟩ iJ hu3) .free aa aa ?_)
 rintro _ _ ⟨sv3,hsv3,rfl,rfl⟩
 rw[ef e12]
 refine kPm aa aa (kPv (aA aa aa) aa (kPv (aA aa aa) aa (kPb (aC zeroValue151 aa) aa fun b8=> ?_)))
 refine kPs (ax (vs:=_) sizeOf151 aa aa aa (by first | rfl | exact eh (by assumption)) rfl) rfl ?_;refine kPa aa aa ?_;refine ad ?_;refine am [9,8,7,6,4,2,0] rfl ?_;refine ac ?_;refine cV Tryz.mixed (by kernel_rfl) (by kernel_rfl) ?_;refine kQm aa aa ?_;refine kQv (ao aa aa aa) aa ?_
 refine kQm aa aa (bj aa (ak aa) (.on aa aa (ae aa)) aa (bj aa (df runUnderlying147 aa aa aa) (.on aa aa (ae aa)) aa (kQv (ay aa aa aa) aa (kQm aa aa (bj aa (ak aa) (.on aa aa (ae aa)) aa (bj aa (ao aa aa aa) (.on aa aa (ae aa)) aa (kQv (ay aa aa aa) aa (kQm aa aa (bj aa (aD (m:=_) iq aa aa) (.on aa aa (ae aa)) aa (bj aa (ah isAgg3 aa aa) (.on aa aa (ae aa)) aa (bj aa (ao aa aa aa) (.on aa aa (ae aa)) aa ?_)))))))))))
 refine kQv (ay aa aa aa) aa (kQm aa aa (bj aa (aD (m:=_) dE aa aa) (.on aa aa (ae aa)) aa (bj aa (ah isAgg3 aa aa) (.on aa aa (ae aa)) aa (bj aa (ao aa aa aa) (.on aa aa (ae aa)) aa (kQv (ay aa aa aa) aa (kQm aa aa (bj aa (ak aa) (.on aa aa (ae aa)) aa (bj aa (ak aa) (.on aa aa (ae aa)) aa (bj aa (cg runUnderlying166 sizeOf3 aa aa (by decide) (by decide)) (.on aa aa (ae aa)) aa (bj aa (bP (v:=i64 42) isAgg3 (cP 7 aa) aa aa) (.on aa aa (ae aa)) aa (bj aa (dh (c:=42) runUnderlying3 runUnderlying25 aa (by decide)) (.on aa aa (ae aa)) aa ?_)))))))))))
 refine bG aa (au call118 aa) (bI (q:=eY) (fun Fr=>ut B Fr x X 42)) (.on aa aa (ae aa)) aa ?_
 refine bj aa (ag isAgg134 sizeOf134 aa aa) (.on aa aa (ae aa)) aa ?_
 refine bG aa (au call119 aa) (jG _ _ ⟨3,1,48⟩ iJ 1 (by decide) (by decide)) (.on aa aa (ae aa)) aa ?_
 refine bj aa (ao aa aa aa) (.on aa aa (ae aa)) aa (kQv (ay aa aa aa) aa (kQa aa aa (bY (am [0] rfl (az ?_)))))
 exact aq results70 aa (fun w hh=>⟨by rw[e13];rfl,(hh.dp [0,0,0,0,0,0,0,0,0])⟩)
theorem Tryz.ownKnobs:ownKnob Tryz.prog.godebug=none:=by kernel_rfl
theorem Tryz.laidOut:laidOutB Tryz.prog=true:=by kernel_rfl
theorem Dm{P:Program}{f:FuncId}{vs:Array Value}{W:World}(h:∀ w,Holds W [old W] w→Calls P f vs w (aZ W [old W] (.bool true))):
 Calls P f vs W (fun e w'=>e= .returned (.bool true)∧RowKit.Below W.heap.size W w'):=(h W (qD W)).mono fun _ _ ⟨h1,h2⟩=>⟨h1,h2.oldb⟩
theorem uO{B:World}{sv:Value}{xs:List Int}{Fr:List HP}{w:World}(h:Holds B (iz 0 (sv,xs)::Fr) w):Holds B (dJ 3 i64 0 (sv,xs)::Fr) w:=by
 rcases jE h with ⟨rfl,rfl,h2⟩ | ⟨bd,rest,rfl,h2⟩
 ·exact eQ h2
 ·exact gX aa aa h2
theorem vL(B:World)(Fr:List HP):
 ∀ w,Holds B Fr w→Calls Tryz.prog 43 [].toArray w (aZ B Fr (.bool true)):=by
 refine an func43 aa ntmps43 aa (ac (ab (kPa aa aa (ad (ac (ac (ab (aw aa (au call70 aa) (vM _ _) .free aa aa ?_))))))))
 refine kPv (bz aa) aa (ad (bH aa (rfl) (ar (ac (ab (aH aa (au call71 aa) (wL _ _) .free aa aa ?_))))))
 rintro _ _ ⟨tb,rfl,rfl⟩
 refine kPa aa aa (ad (ac (ab (kPm aa aa (kPv (df runUnderlying130 aa aa aa) aa (kPm aa aa (al aa (ak aa) (.on aa aa (ae aa)) aa aa (dC aa (au call72 aa) (kf _ _ _ _ _ ⟨by decide,by decide⟩) (.on aa aa (ae aa)) aa aa ?_))))))))
 refine al aa (ao aa aa aa) (.on aa aa (ae aa)) aa aa (kPv (ay aa aa aa) aa (kPm aa aa (al aa (ak aa) (.on aa aa (ae aa)) aa aa (dC aa (au call72 aa) (kf _ _ _ _ _ ⟨by decide,by decide⟩) (.on aa aa (ae aa)) aa aa ?_))))
 refine al aa (ao aa aa aa) (.on aa aa (ae aa)) aa aa (kPv (ay aa aa aa) aa (kPm aa aa (al aa (ak aa) (.on aa aa (ae aa)) aa aa (dC aa (au call72 aa) (kf _ _ _ _ _ ⟨by decide,by decide⟩) (.on aa aa (ae aa)) aa aa ?_))))
 refine al aa (ao aa aa aa) (.on aa aa (ae aa)) aa aa (kPv (ay aa aa aa) aa (kPm aa aa (al aa (ak aa) (.on aa aa (ae aa)) aa aa (dC aa (au call72 aa) (kf _ _ _ _ _ ⟨by decide,by decide⟩) (.on aa aa (ae aa)) aa aa ?_))))
 refine al aa (ao aa aa aa) (.on aa aa (ae aa)) aa aa (kPv (ay aa aa aa) aa (kPa aa aa (ad (am [0] rfl (az ?_)))))
 exact aq results43 aa (fun w hh=>⟨rfl,(hh.dp [0])⟩)
structure HpS where
 bd:Nat
 c:Cfg
 S:bC
 o:Bool
 T:gB
 X:Option bE
def nq:Bool→Nat→bC→HP
 | true=>iQ
 | false=>fC
def yB(x:Nat):Option bE→HP
 | none=>pr True
 | some X=>eY x X
def EI(x:Nat):Option bE→Value
 | none=> .pointer none
 | some _=>ptr x
abbrev cH(bh bs bt x:Nat)(h:HpS):HP:=row bh [ptr h.bd,i64 h.c.log,i64 h.c.roots,i64 h.c.space,ptr bs,ptr bt,EI x h.X] 149
def dH(bh:Nat)(h:HpS):HP:=hex fun (x:Nat×Nat×Nat)=>grp [cH bh x.1 x.2.1 x.2.2 h,nq h.o x.1 h.S,gc x.2.1 h.T,yB x.2.2 h.X]
section
variable {B:World} {n:Nat} {D:List Deferred} {σ:Env} {Fr:List HP} {K:Act→World→Prop} {bh bs bt x:Nat} {h:HpS} {w:World}
theorem iN(g:∀ bs bt x,GO B n D σ (cH bh bs bt x h::nq h.o bs h.S::gc bt h.T::yB x h.X::Fr) K):GO B n D σ (dH bh h::Fr) K:=fun a w st=>by
 obtain⟨x,hx⟩:=st.holds.hex
 exact g x.1 x.2.1 x.2.2 a w ⟨st.toStA,hx.grp⟩
theorem et(hh:Holds B (cH bh bs bt x h::nq h.o bs h.S::gc bt h.T::yB x h.X::Fr) w):Holds B (dH bh h::Fr) w:=
 Holds.unhex (bs,bt,x) (Holds.ungrp (l:=[cH bh bs bt x h,nq h.o bs h.S,gc bt h.T,yB x h.X]) hh)
end
structure ei(h:HpS)(s:Dev):Prop where
 c:bA h.c
 k:A3 h.S h.bd h.c s
 sw:h.o=true→lA h.S∧h.S.dirty.length≤1000000
 u:U64 s
 t1:0≤h.T.last∧h.T.last≤1000000000
 tl:h.T.at_.length≤800000
 tp:∀ p∈h.T.at_,0≤p.2∧p.2≤1000000
 x:∀ X,h.X=some X→fp X∧X.bd=h.bd∧X.c=h.c∧0<X.b.rts.length
abbrev HpS.blk(h:HpS)(s:Dev):Blk:=(s.block h.c).1
def HpS.obj(h:HpS)(s:Dev)(n:Int):db×Int:=if (bK h.T.at_ n).isSome=true then s.objOf h.c (h.blk s) ((bK h.T.at_ n).getD 0) else ((0,0,0),6)
def HpS.words(h:HpS):List Int:=(bZ (h.T.at_.map Prod.fst)).map fun n=>(bK h.T.at_ n).getD 0
theorem gz(B:World)(Fr:List HP)(bh bs bt x:Nat)(h:HpS)(s:Dev)(hc:bA h.c)(hu:U64 s):
 ∀ w,Holds B (cH bh bs bt x h::aB h.bd s::Fr) w→Calls Tryz.prog 81 [ptr bh].toArray w (Ret B (fun rv H'=>∃ sv,aL sv=true∧rv=ly (h.blk s) sv∧H'=cS 0 (sv,(h.blk s).rts)::cH bh bs bt x h::aB h.bd s::Fr) (fun _ _=>False)):=by
 refine an func81 aa ntmps81 aa (ac (ab (kPb (aC zeroValue151 aa) aa fun b2=>(ad (ac ?_)))))
 refine iE (.br [0,1,2,3,4,5,6,7] 8 (.fin [9,10,11,12,13,14]) 12 (.fin [8,9,10,11,13,14])) [8,12,13] [0,1,2,3,4,5,6,7,9,10,11] [12,13] [cH bh bs bt x h] [] (G:=Nat×Value) (fun (b3,sv)=>[(3,ptr b3),(2,ptr b2)]) (fun (b3,sv)=>row b3 [i64 (h.blk s).act,i64 (h.blk s).used,sv] 151::cS 0 (sv,(h.blk s).rts)::cH bh bs bt x h::aB h.bd s::row b2 [i64 0,i64 0,.slice none 0 0] 151::Fr) Tryz.mixed (by kernel_rfl) ?_ ?_
 ·skip
  refine sS (aj aa aa aa (ak aa) .free aa (aj aa aa aa (aI aa) .free aa (aj aa aa aa (aD (m:=_) ir aa aa) .free aa (aj aa aa aa (ah isAgg90 aa aa) .free aa (aj aa aa aa (ak aa) .free aa (aj aa aa aa (aI aa) .free aa (aj aa aa aa (aD (m:=_) ed aa aa) .free aa (aj aa aa aa (ag isAgg134 sizeOf134 aa aa) .free aa ?_))))))))
  refine cy ?_
  refine mT aa aa ?_ ?_
  ·skip
   refine aP [2] (aH aa (au call117 aa) (fT _ _ _ _ h.c hc hu) .free aa aa ?_)
   rintro _ _ ⟨sv14,hsv14,rfl,rfl⟩
   refine ad (sR aa (gR (aj aa aa aa (ak aa) .free aa (aj aa aa aa (aA aa aa) .free aa (aj aa aa aa (aA aa aa) .free aa (aT aa aa (kPb (aC zeroValue151 aa) aa fun b3=>(ad (cN (aT aa aa ?_))))))))))
   refine kPs (ax (vs:=_) sizeOf151 aa aa aa (by first | rfl | exact eh (by assumption)) rfl) rfl ?_
   refine ad (cN (aS aa aa aa (bu aa) .free aa (cy ?_)))
   exact fun a w st_=>⟨(b3,sv14),st_.to ⟨rfl,rfl,trivial⟩ (fun hh=>(hh.pk [0,0,2]))⟩
  ·skip
   refine kPb (aC zeroValue151 aa) aa fun b3=>(ad (rj (gR (aT aa aa (aP [3] (aH aa (au call117 aa) (fT _ _ _ _ h.c hc hu) .free aa aa ?_))))))
   rintro _ _ ⟨sv14,hsv14,rfl,rfl⟩
   refine ad (c7 aa (aj aa aa aa (ak aa) .free aa (aj aa aa aa (aA aa aa) .free aa (aj aa aa aa (aA aa aa) .free aa (aT aa aa ?_)))))
   refine kPs (ax (vs:=_) sizeOf151 aa aa aa (by first | rfl | exact eh (by assumption)) rfl) rfl ?_;refine ad ?_;refine cN ?_;refine aS aa aa aa (bu aa) .free aa ?_;refine cy ?_
   exact fun a w st_=>⟨(b3,sv14),st_.to ⟨rfl,rfl,trivial⟩ (fun hh=>(hh.pk [2,0,2]))⟩
 rintro⟨b3,sv⟩
 refine cu (σ':=[(3,ptr b3),(2,ptr b2)]) ⟨rfl,rfl,trivial⟩ (ac (aP [1] (cE fun qv cv hqv hqi=> ?_)))
 subst hqv
 refine ab (kPv (ag isAgg151 sizeOf151 aa aa) aa ?_)
 refine kPs (ax (vs:=_) sizeOf151 aa aa aa (by first | rfl | exact eh (by assumption)) rfl) rfl ?_;refine ad ?_;refine az ?_
 exact qh results81 (.cellA aa isAgg151 sizeOf151 aa aa) (fun w hw=>⟨_,⟨.slice qv (h.blk s).rts.length cv,rfl,rfl,rfl⟩,(hw.dp [1,3])⟩)
theorem tL{α:Type}{k:Int}{v:α}:∀ {l:List (Int×α)},bK l k=some v→(k,v)∈l
 | [],h=>by cases h
 | q::l,h=>by
   unfold bK at h
   split at h
   ·rename_i e;cases h;rw[←e];exact List.mem_cons_self ..
   ·exact List.mem_cons_of_mem _ (tL h)
theorem ei.pb{h:HpS}{s:Dev}(hW:ei h s)(n:Int):0≤(bK h.T.at_ n).getD 0∧(bK h.T.at_ n).getD 0≤1000000:=by
 cases hm:bK h.T.at_ n with
 | none=>simp
 | some v=>exact hW.tp _ (tL hm)
theorem vq(B:World)(Fr:List HP)(bh bs bt x:Nat)(h:HpS)(s:Dev)(hW:ei h s)(n:Int):
 ∀ w,Holds B (cH bh bs bt x h::gc bt h.T::aB h.bd s::Fr) w→Calls Tryz.prog 87 [ptr bh,i64 n].toArray w (aZ B (cH bh bs bt x h::gc bt h.T::aB h.bd s::Fr) (.tuple #[gQ (h.obj s n).1,i64 (h.obj s n).2])):=by
 refine an func87 aa ntmps87 aa ?_
 have hc:=hW.c
 have hu:=hW.u
 have hbk:=dG (s:=s) hc hu
 have hbl:(h.blk s).rts.length≤16:=fK (s:=s) hc
 refine ac (ab (kPb (aC zeroValue160 aa) aa fun b4=>(kPa aa aa (ad (ac (ab (kPf jd isAgg130 aa aa aa aa (kPm aa aa (aw aa (au call146 aa) (bI (q:=gc) (fun Fr=>qC _ Fr bt h.T n)) .free aa aa ?_)))))))))
 refine kPm aa aa (kPv (aA aa aa) aa (kPv (aA aa aa) aa (kPa aa aa (kPa aa aa (ad (am [7,6,5,4,0] rfl (ac (ac (ab (kPm aa aa (kPv (bz aa) aa ?_)))))))))))
 refine ad ?_
 refine a8 aa (fun h18=> ?_) (fun h18=> ?_)
 ·have hk:¬ (bK h.T.at_ n).isSome=true:=by simpa using h18
  have hres:h.obj s n=((0,0,0),6):=by unfold HpS.obj;rw[if_neg hk]
  refine ac (ab (kPv (aQ aa (sA)) aa (kPs (ax (vs:=_) sizeOf160 aa aa aa aa aa) aa (kPa aa aa (ad (az ?_))))))
  exact gj results87 (.cellA aa isAgg160 sizeOf160 aa aa) (.tmp aa) (fun w hw=>⟨by rw[hres];rfl,(hw.dp [0])⟩)
 ·have hk:(bK h.T.at_ n).isSome=true:=by simpa using h18
  have hres:h.obj s n=s.objOf h.c (h.blk s) ((bK h.T.at_ n).getD 0):=by unfold HpS.obj;rw[if_pos hk]
  refine ar (ac (cW [0,1,2,3,4,5,6,7,8,10,9,11,12,13,14,15] [9,11,14] [0,1,2,3,4,5,6,7,10] [9] [cH bh bs bt x h] Tryz.mixed (by kernel_rfl) ?_))
  refine aj aa aa aa (ak aa) .free aa (aj aa aa aa (aI aa) .free aa (aj aa aa aa (aD (m:=_) ir aa aa) .free aa (aj aa aa aa (ah isAgg90 aa aa) .free aa (aj aa aa aa (ak aa) .free aa (aj aa aa aa (aI aa) .free aa (aj aa aa aa (aD (m:=_) ed aa aa) .free aa (aj aa aa aa (ag isAgg134 sizeOf134 aa aa) .free aa ?_)))))))
  refine aS aa aa aa (ak aa) .free aa (aj aa aa aa (ak aa) .free aa (aT aa aa (aP [1,2] (aH aa (au call81 aa) (gz B _ bh bs bt x h s hc hu) .free aa aa ?_))))
  rintro _ _ ⟨sv,hsv,rfl,rfl⟩
  refine ad (cN (aT aa aa (aw aa (au call147 aa) (bI (q:=aB) (fun Fr=>j2 _ Fr _ _ h.c hc (h.blk s) sv hbk hsv _ (by have:=hW.pb n;omega))) .free aa aa ?_)))
  refine ad (c7 aa (aS aa aa aa (aA aa aa) .free aa (aS aa aa aa (aA aa aa) .free aa (aT aa aa (kPs (ax (vs:=_) sizeOf160 aa aa aa aa aa) aa (ad (c7 aa (aS aa aa aa (bu aa) .free aa (cy (am [5,4] rfl (az ?_)))))))))))
  exact gj results87 (.cellA aa isAgg160 sizeOf160 aa aa) (.tmp aa) (fun w hw=>⟨by rw[hres];rfl,((hw.dp [0,2]).pk [0,1])⟩)
theorem qA(B:World)(Fr:List HP)(bh bs bt x:Nat)(h:HpS)(s:Dev)(hW:ei h s):
 ∀ w,Holds B (cH bh bs bt x h::gc bt h.T::Fr) w→Calls Tryz.prog 134 [ptr bh].toArray w (Ret B (fun rv H'=>aL rv=true∧H'=cS 0 (rv,h.words)::cH bh bs bt x h::gc bt h.T::Fr) (fun _ _=>False)):=by
 refine an func134 aa ntmps134 aa ?_
 have hkl:(bZ (h.T.at_.map Prod.fst)).length≤800000:=by have:=hW.tl;rw[bZ,List.length_mergeSort,List.length_map];exact this
 refine ac (ab (kPa aa aa (ad (ac (ab (kPa aa aa (ad (ac (ac (aM (fun w hh=>eQ (T:=25) (enc:=w64) hh) (ab ?_)))))))))))
 refine kPf jd isAgg130 aa aa aa aa (aP [2] (aH aa (au call92 aa) (m6 B _ bt h.T (by have:=hW.tl;omega)) .free aa aa ?_))
 rintro rv _ rfl
 refine aM (fun w hh=>uO hh) (cE fun qn cn hqn hqi=> ?_)
 subst hqn
 refine kPv (bD aa runUnderlying166 ⟨_,rfl⟩ rfl) aa (kPm aa aa (ad (aG (cK (ι:=Nat×Value×List Int) [13,12,2,0] (fun (k,sv,ws)=>(k≤(bZ (h.T.at_.map Prod.fst)).length)∧(aL sv=true)∧(ws=((bZ (h.T.at_.map Prod.fst)).take k).map (fun n=>(bK h.T.at_ n).getD 0))∧(ws.length=k)) (fun (k,sv,ws)=>[(14,i64 k),(3,sv)]) (fun (k,sv,ws)=>dJ 25 w64 0 (sv,ws)::dJ 3 i64 0 (.slice qn (bZ (h.T.at_.map Prod.fst)).length cn,(bZ (h.T.at_.map Prod.fst)))::gc bt h.T::cH bh bs bt x h::Fr) (fun (k,sv,ws)=>(bZ (h.T.at_.map Prod.fst)).length - k) (0,.slice none 0 0,[]) (⟨Nat.zero_le _,rfl,rfl,rfl⟩) (fun a w st=>st.to ⟨rfl,rfl,trivial⟩ (fun hh=>(hh.pk [2]))) ?_))))
 rintro⟨k,sv,ws⟩ ⟨hk0,hsv,hws,hwl⟩
 try simp only at hk0 hsv hws hwl ⊢
 refine cu (σ':=[(14,i64 k),(3,sv),(13,_),(12,_),(2,_),(0,_)]) (aE aa) (ac (ab (kPv (ao aa aa aa) aa (ad (ac ?_)))))
 refine a8 aa (fun h15=> ?_) (fun h15=> ?_)
 ·have hk:k<(bZ (h.T.at_.map Prod.fst)).length:=by simpa using h15
  obtain⟨bN,oN,rfl⟩:=hqi k hk
  have hpb:=hW.pb (bZ (h.T.at_.map Prod.fst))[k]
  refine ar (ac (aG (ac (ab (kPv (cg runUnderlying166 sizeOf3 aa aa (by omega) (by omega)) aa ?_)))))
  refine kPv (bP (v:=i64 (bZ (h.T.at_.map Prod.fst))[k]) isAgg3 (cP 1 aa) aa (by rw[Int.toNat_natCast,List.getElem?_map,List.getElem?_eq_getElem hk];rfl)) aa ?_
  refine kPa aa aa (ad (ac (ab (kPf jd isAgg130 aa aa aa aa (kPm aa aa (aw aa (au call146 aa) (bI (q:=gc) (fun Fr=>qC _ Fr bt h.T (bZ (h.T.at_.map Prod.fst))[k])) .free aa aa ?_))))))
  refine kPm aa aa (kPv (aA aa aa) aa (kPv (aA aa aa) aa (kPa aa aa (kPa aa aa (ad (am [6,14,3,13,12,2,0] rfl (ab (kPm aa aa (kPm aa aa (kPv (dh runUnderlying3 runUnderlying25 aa (fQ (by omega))) aa (kPb (f9 runUnderlying30 sizeOf25 zeroValue25 aa aa aa) aa fun b30=> ?_)))))))))))
  refine aP [1,0] (cJ aa (eu aa aa runUnderlying30 runUnderlying30 ⟨_,rfl⟩ sizeOf25 zeroValue25 aa (fun _=>rfl) hO aa aa (by omega)) .free aa aa ?_)
  rintro sv9 _ ⟨hsv9,rfl⟩
  refine kPa aa aa (ad (ab (kPv (aN aa aa) aa (kPm aa aa (ad (am [14,3,13,12,2,0] rfl ?_))))))
  exact fun a w st_=>⟨(k+1,sv9,ws++[(bK h.T.at_ (bZ (h.T.at_.map Prod.fst))[k]).getD 0]),⟨by omega,hsv9,by rw[List.take_succ_eq_append_getElem hk,List.map_append, ←hws];rfl,by simp[hwl]⟩,by omega,st_.to (aE aa) (fun hh=>hh)⟩
 ·have h9:¬ k<(bZ (h.T.at_.map Prod.fst)).length:=by simpa using h15
  have hk:k=(bZ (h.T.at_.map Prod.fst)).length:=by omega
  have hres:ws=h.words:=by rw[hws,hk,List.take_length];rfl
  refine bF (ac (ab (kPm aa aa (kPa aa aa (ad (am [2] rfl (az ?_)))))))
  exact aq results134 aa (fun w hw=>⟨_,⟨hsv,rfl⟩,by rw[←hres];exact((hw.dp [1]).pk [0,1])⟩)
theorem BI(B:World)(Fr:List HP)(bh bs bt x:Nat)(h:HpS)(s:Dev)(hW:ei h s):
 ∀ w,Holds B (cH bh bs bt x h::gc bt h.T::aB h.bd s::Fr) w→Calls Tryz.prog 91 [ptr bh].toArray w (Ret B (fun rv H'=>aL rv=true∧H'=cS 0 (rv,h.words++(h.blk s).rts)::cH bh bs bt x h::gc bt h.T::aB h.bd s::Fr) (fun _ _=>False)):=by
 refine an func91 aa ntmps91 aa ?_
 have hc:=hW.c
 have hu:=hW.u
 have hbk:=dG (s:=s) hc hu
 have hbl:(h.blk s).rts.length≤16:=fK (s:=s) hc
 have hwl:h.words.length≤800000:=by have:=hW.tl;simp[HpS.words,bZ];exact this
 refine ac (ab (kPa aa aa (ad (ac (ab (kPm aa aa (aH aa (au call134 aa) (qA B _ bh bs bt x h s hW) .free aa aa ?_)))))))
 rintro wv _ ⟨hwv,rfl⟩
 refine kPm aa aa (aP [1,2] (aH aa (au call81 aa) (gz B _ bh bs bt x h s hW.c hW.u) .free aa aa ?_))
 rintro _ _ ⟨sv,hsv,rfl,rfl⟩
 refine cE fun qb cb hqb hqbi=> ?_
 subst hqb
 refine kPv (hG runUnderlying151 (t:=30) (off:=2) aa isAgg30 aa aa) aa (aP [3] (cJ aa (ee (yv:=(.slice qb (h.blk s).rts.length cb)) (ys:=(h.blk s).rts) aa aa runUnderlying30 runUnderlying30 ⟨_,rfl⟩ sizeOf25 zeroValue25 aa (fun _=>rfl) hO aa aa (cP (1 - 1) aa) (by omega)) .free aa aa ?_))
 rintro nv _ ⟨hnv,rfl⟩
 refine kPa aa aa (ad (am [2] rfl (az ?_)))
 exact aq results91 aa (fun w hw=>⟨_,⟨hnv,rfl⟩,((hw.dp [1]).pk [0,0,1])⟩)
section
variable {B:World} {Fr:List HP} {bh bs bt x:Nat} {h:HpS} {w:World}
theorem qI(ho:h.o=true)(hh:Holds B (cH bh bs bt x h::iQ bs h.S::gc bt h.T::yB x h.X::Fr) w):Holds B (dH bh h::Fr) w:=et (bs:=bs) (bt:=bt) (x:=x) (by rw[ho];exact hh)
theorem wM(ho:h.o=false)(hh:Holds B (cH bh bs bt x h::fC bs h.S::gc bt h.T::yB x h.X::Fr) w):Holds B (dH bh h::Fr) w:=et (bs:=bs) (bt:=bt) (x:=x) (by rw[ho];exact hh)
end
theorem kH(B:World)(Fr:List HP)(bs:Nat)(S:bC)(o:Bool):∀ w,Holds B (nq o bs S::Fr) w→Calls Tryz.prog 80 [ptr bs].toArray w (aZ B (nq o bs S::Fr) (.bool o)):=by
 cases o
 ·exact mp B Fr bs S
 ·exact xu B Fr bs S
theorem HpS.obj_w{h:HpS}{s:Dev}(hW:ei h s){n:Int}(e:(h.obj s n).2=0):lB (h.obj s n).1:=by
 unfold HpS.obj at e ⊢
 split at e
 ·rename_i hm
  rw[if_pos hm]
  exact gY hW.c (dG hW.c hW.u) e
 ·cases e
def HpS.commit(h:HpS)(s:Dev):Out (Int×HpS):=if h.o=true then (h.S.commit s).then fun S s=> .ok (0,{h with o:=false,S:=S}) s else .ok (2,h) s
def HpS.alloc(h:HpS)(s:Dev)(w r:Int):Out ((Int×Int)×HpS):=if h.o=true then (cO gi h.c w r s h.S).then fun x s=>if x.1.2≠0 then .ok ((0,x.1.2),{h with S:=x.2}) s else .ok (((h.T.take x.1.1).1,0),{h with S:=x.2,T:=(h.T.take x.1.1).2}) s else .ok ((0,2),h) s
def HpS.write(h:HpS)(s:Dev)(n i v:Int):Out (Int×HpS):=if h.o=true then (if (h.obj s n).2≠0 then .ok ((h.obj s n).2,h) s else (iL gi (h.obj s n).1 i false v s h.S).then fun x s=> .ok (x.1,{h with S:=x.2}) s) else .ok (2,h) s
theorem vo(B:World)(Fr:List HP)(bh:Nat)(h:HpS)(s:Dev)(hW:ei h s):
 ∀ w,Holds B (dH bh h::aB h.bd s::Fr) w→Calls Tryz.prog 79 [ptr bh].toArray w (aZ B (dH bh h::aB h.bd s::Fr) (i64 (s.check h.c))):=by
 refine an func79 aa ntmps79 aa (iN fun bs bt x=>(ac (ab (kPa aa aa (ad (ac (cV Tryz.mixed (by kernel_rfl) (by kernel_rfl) ?_)))))))
 refine kQm aa aa (kQv (aI aa) aa (kQv (aD (m:=_) ir aa aa) aa (kQv (ah isAgg90 aa aa) aa (kQm aa aa (kQv (aI aa) aa (kQv (aD (m:=_) ed aa aa) aa (kQv (ag isAgg134 sizeOf134 aa aa) aa ?_)))))))
 refine bG aa (au call130 aa) (bI (q:=aB) (fun Fr=>kV _ Fr h.bd s h.c hW.c hW.u)) .free aa ?_
 refine kQa aa aa (bY (am [2] rfl (az ?_)))
 exact aq results79 aa (fun w hw=>⟨rfl,et (bs:=bs) (bt:=bt) (x:=x) hw⟩)
theorem ei.ok{h:HpS}{s:Dev}(hW:ei h s)(ho:h.o=true):U64 s∧s.n≤1000000∧lA h.S∧h.S.L.d=h.bd∧h.S.L.c=h.c:=⟨hW.u,hW.k.n,(hW.sw ho).1,hW.k.d,hW.k.c⟩
theorem xY(B:World)(Fr:List HP)(bh:Nat)(h:HpS)(s:Dev)(hW:ei h s)(n i v:Int)(hv:0≤v∧v<18446744073709551616):
 ∀ w,Holds B (dH bh h::aB h.bd s::Fr) w→Calls Tryz.prog 48 [ptr bh,i64 n,i64 i,w64 v].toArray w (Ret B (fun rv H'=>∃ a h' s',h.write s n i v= .ok (a,h') s'∧rv=i64 a∧H'=dH bh h'::aB h.bd s'::Fr) (fun ch H'=>∃ s',h.write s n i v= .off s'∧ch=dV∧H'=aB h.bd s'::Fr)):=by
 refine an func48 aa ntmps48 aa (iN fun bs bt x=>(ac (ab (kPa aa aa (ad (ac (ac (ab (kPf dQ isAgg146 aa aa aa aa (aw aa (au call80 aa) (bI (q:=nq h.o) (fun Fr=>kH B Fr bs h.S h.o)) .free aa aa ?_))))))))))
 refine kPv (bz aa) aa (ad ?_)
 refine a8 aa (fun h16=> ?_) (fun h16=> ?_)
 ·have ho:h.o=false:=by simpa using h16
  have hof:¬ h.o=true:=by rw[ho];decide
  refine ac (ab (kPa aa aa (ad (az ?_))))
  exact aq results48 aa (fun w hw=>⟨_,⟨2,h,s,by unfold HpS.write;rw[if_neg hof],rfl,rfl⟩,et (bs:=bs) (bt:=bt) (x:=x) hw⟩)
 ·have ho:h.o=true:=by simpa using h16
  refine aP [1] (aM (H':=iQ bs h.S::_) (fun w hh=>by rw[ho] at hh;exact hh) (ar (ac (ab (kPm aa aa (kPm aa aa (aP [1,1,2] (aw aa (au call87 aa) (vq B _ bh bs bt x h s hW n) .free aa aa ?_))))))))
  refine kPm aa aa (kPv (aA aa aa) aa (kPv (aA aa aa) aa (kPb (aC zeroValue160 aa) aa fun b9=>(kPs (ax (vs:=_) sizeOf160 aa aa aa aa aa) aa (kPa aa aa (ad (am [10,9,8,0,2,3] rfl (ac (ac (ab (kPm aa aa ?_)))))))))))
  refine kPv (ao aa aa aa) aa (ad ?_)
  refine a8 aa (fun h24=> ?_) (fun h24=> ?_)
  ·have hk:(h.obj s n).2≠0:=by simpa using h24
   refine ac (ab (kPm aa aa (kPa aa aa (ad (az ?_)))))
   exact aq results48 aa (fun w hw=>⟨_,⟨(h.obj s n).2,h,s,by unfold HpS.write;rw[if_pos ho,if_pos hk],rfl,rfl⟩,qI (bs:=bs) (bt:=bt) (x:=x) ho ((hw.dp [0]).pk [0,2,0,1])⟩)
  ·have hk:¬ (h.obj s n).2≠0:=by simpa using h24
   have how:=HpS.obj_w hW (n:=n) (by omega)
   refine ar (ac (aM (H':=row b9 [i64 (h.obj s n).1.1,i64 (h.obj s n).1.2.1,i64 (h.obj s n).1.2.2] 160::_) (fun w hh=>hh) (cQ 8 Tryz.mixed (by kernel_rfl) (by kernel_rfl) ?_)))
   refine kQv (ag isAgg160 sizeOf160 aa aa) aa ?_
   refine kQm aa aa (kQm aa aa (kQm aa aa (kQv (aI aa) aa (kQv (aD (m:=_) dQ aa aa) aa (kQv (ah isAgg146 aa aa) aa (kQv (dz aa aa) aa (bY (aP [3,3] ?_))))))))
   refine aU aa (au call88 aa) (qi B _ _ _ h.bd bs bC (fun b S=>iQ b S) _ _ (uW B h.bd bs h.c) (h.obj s n).1 how i v hv s h.S (hW.ok ho)) .free aa aa ?_ ?_
   rotate_left
   ·rintro _ _ ⟨s9,hm9,rfl,rfl⟩
    exact bi fun w hh=>⟨_,⟨s9,by unfold HpS.write;rw[if_pos ho,if_neg hk,show iL gi (h.obj s n).1 i false v s h.S= .off s9 from hm9];rfl,rfl,rfl⟩,hh.dp [1,1,1,1]⟩
   rintro _ _ ⟨a2,S2,s2,hm2,rfl,hok2,rfl⟩
   refine kPa aa aa (ad (am [8] rfl (az ?_)))
   exact aq results48 aa (fun w hw=>⟨_,⟨a2,{h with S:=S2},s2,by unfold HpS.write;rw[if_pos ho,if_neg hk,show iL gi (h.obj s n).1 i false v s h.S= .ok (a2,S2) s2 from hm2];rfl,rfl,rfl⟩,qI (h:={h with S:=S2,T:=h.T}) (bs:=bs) (bt:=bt) (x:=x) ho ((hw.dp [2]).pk [2,1,1,1])⟩)
theorem vp(B:World)(Fr:List HP)(bh:Nat)(h:HpS)(s:Dev)(hW:ei h s)(wd rf:Int):
 ∀ w,Holds B (dH bh h::aB h.bd s::Fr) w→Calls Tryz.prog 47 [ptr bh,.agg #[i64 wd,i64 rf]].toArray w (Ret B (fun rv H'=>∃ a h' s',h.alloc s wd rf= .ok (a,h') s'∧rv= .tuple #[i64 a.1,i64 a.2]∧H'=dH bh h'::aB h.bd s'::Fr) (fun ch H'=>∃ s',h.alloc s wd rf= .off s'∧ch=dV∧H'=aB h.bd s'::Fr)):=by
 refine an func47 aa ntmps47 aa (iN fun bs bt x=>(ac (ab (kPb (aX aa) aa fun b3=>(kPa aa aa (kPa aa aa (ad (ac (ac (ab (kPf dQ isAgg146 aa aa aa aa ?_)))))))))))
 refine aw aa (au call80 aa) (bI (q:=nq h.o) (fun Fr=>kH B Fr bs h.S h.o)) .free aa aa ?_
 refine kPv (bz aa) aa (ad ?_)
 refine a8 aa (fun h13=> ?_) (fun h13=> ?_)
 ·have ho:h.o=false:=by simpa using h13
  have hof:¬ h.o=true:=by rw[ho];decide
  refine ac (ab (kPa aa aa (kPa aa aa (ad (am [5,4,3,0] rfl (az ?_))))))
  exact ce results47 aa aa (fun w hw=>⟨_,⟨(0,2),h,s,by unfold HpS.alloc;rw[if_neg hof],rfl,rfl⟩,et (bs:=bs) (bt:=bt) (x:=x) (hw.dp [0])⟩)
 ·have ho:h.o=true:=by simpa using h13
  refine aP [2] (aM (H':=iQ bs h.S::_) (fun w hh=>by rw[ho] at hh;exact hh) (ar (ac (wV [14] Tryz.mixed (by kernel_rfl) (by kernel_rfl) ?_))))
  refine CC (kQm aa aa (kQv (aI aa) aa (kQv (aD (m:=_) ir aa aa) aa (kQv (ah isAgg90 aa aa) aa (kQm aa aa (kQv (aI aa) aa (kQv (aD (m:=_) ed aa aa) aa (kQv (ag isAgg134 sizeOf134 aa aa) aa ?_))))))))
  refine kQv (ag isAgg102 sizeOf102 aa aa) aa ?_
  refine kQm aa aa (kQv (aI aa) aa (kQv (aD (m:=_) dQ aa aa) aa (kQv (ah isAgg146 aa aa) aa (kQv (dz aa aa) aa (bY (aP [5,0] ?_))))))
  refine aU aa (au call85 aa) (uN B _ _ _ h.bd bs bC (fun b S=>iQ b S) _ _ (uW B h.bd bs h.c) h.c hW.c wd rf s h.S (hW.ok ho)) .free aa aa ?_ ?_
  rotate_left
  ·rintro _ _ ⟨s9,hm9,rfl,rfl⟩
   exact bi fun w hh=>⟨_,⟨s9,by unfold HpS.alloc;rw[if_pos ho,show cO gi h.c wd rf s h.S= .off s9 from hm9];rfl,rfl,rfl⟩,hh.dp [1,1,1,1]⟩
  rintro _ _ ⟨⟨at2,a2⟩,S2,s2,hm2,rfl,hok2,rfl⟩
  refine ad (CD (kQm aa aa (kQv (aA aa aa) aa (kQv (aA aa aa) aa (kQa aa aa (kQa aa aa (bY (am [7,6,5,4,0] rfl (ac (ac (ab ?_)))))))))))
  refine kPm aa aa (kPv (ao aa aa aa) aa (ad ?_))
  refine a8 aa (fun h33=> ?_) (fun h33=> ?_)
  ·have ha2:a2≠0:=by simpa using h33
   refine ac (ab (kPm aa aa (kPa aa aa (kPa aa aa (ad (az ?_))))))
   exact ce results47 aa aa (fun w hw=>⟨_,⟨(0,a2),{h with S:=S2},s2,by unfold HpS.alloc;rw[if_pos ho,show cO gi h.c wd rf s h.S= .ok ((at2,a2),S2) s2 from hm2];simp only[aR];rw[if_pos ha2],rfl,rfl⟩,qI (h:={h with S:=S2,T:=h.T}) (bs:=bs) (bt:=bt) (x:=x) ho ((hw.dp [2]).pk [2,1,1,1])⟩)
  ·have ha2:¬ a2≠0:=by simpa using h33
   refine ar (ac (ab (kPf jd isAgg130 aa aa aa aa (kPm aa aa (aP [4] (dC aa (au call72 aa) (kf B _ bt h.T at2 hW.t1) .free aa aa ?_))))))
   refine kPa aa aa (kPa aa aa (ad (am [5,4] rfl (az ?_))))
   exact ce results47 aa aa (fun w hw=>⟨_,⟨((h.T.take at2).1,0),{h with S:=S2,T:=(h.T.take at2).2},s2,by unfold HpS.alloc;rw[if_pos ho,show cO gi h.c wd rf s h.S= .ok ((at2,a2),S2) s2 from hm2];simp only[aR];rw[if_neg ha2],rfl,rfl⟩,qI (h:={h with S:=S2,T:=(h.T.take at2).2}) (bs:=bs) (bt:=bt) (x:=x) ho ((hw.dp [3]).pk [3,2,0,1])⟩)
def p9(X:bE)(p:Int):Int:=(bK X.went p).getD 0
def HpS.finR(h:HpS)(X:bE)(s:Dev)(a:Int)(h':HpS)(s':Dev):Prop:=∃ S',i6 h.c X.block h.S s= .ok (a,S') s'∧
 ((a≠0∧h'={h with X:=none,S:=S'})∨(a=0∧∃ ord:List (Int×Int),ord.Perm h.T.at_∧h'={h with X:=none,S:=S',T:=gB.moved (p9 X) h.T.last ord}))
def HpS.colR(h:HpS)(s:Dev)(a:Int)(h':HpS)(s':Dev):Prop:=(h.o=true∧a=2∧h'=h∧s'=s)∨(h.o=false∧∃ X s1,(eA h.bd h.c (h.blk s) ((h.blk s).rts++h.words)).run s= .ok X s1∧h.finR X s1 a h' s')
def HpS.colOff(h:HpS)(s s':Dev):Prop:=h.o=false∧((eA h.bd h.c (h.blk s) ((h.blk s).rts++h.words)).run s= .off s'∨∃ X s1,(eA h.bd h.c (h.blk s) ((h.blk s).rts++h.words)).run s= .ok X s1∧i6 h.c X.block h.S s1= .off s')
theorem tV{B:World}{Fr:List HP}{bh bs bt x:Nat}{h:HpS}{w:World}(ho:h.o=false)(hx:h.X=none)(hh:Holds B (cH bh bs bt x h::fC bs h.S::gc bt h.T::Fr) w):Holds B (dH bh h::Fr) w:=
 wM (bs:=bs) (bt:=bt) (x:=x) ho (by rw[hx];exact(hh.unpr (p:=True) trivial).back 3 (by simp))
theorem tY(B:World)(Fr:List HP)(bh:Nat)(h:HpS)(s:Dev)(hW:ei h s)(ho:h.o=true):
 ∀ w,Holds B (dH bh h::aB h.bd s::Fr) w→Calls Tryz.prog 49 [ptr bh].toArray w (Ret B (fun rv H'=>∃ a h' s',h.commit s= .ok (a,h') s'∧rv=i64 a∧H'=dH bh h'::aB h.bd s'::Fr) (fun ch H'=>∃ s',h.commit s= .off s'∧ch=dV∧H'=aB h.bd s'::Fr)):=by
 refine an func49 aa ntmps49 aa (iN fun bs bt x=>(aP [1] (aM (H':=iQ bs h.S::_) (fun w hh=>by rw[ho] at hh;exact hh) (aP [0,3] (aM (H':=iQ bs h.S::aB h.S.L.d s::_) (fun w hh=>by rw[hW.k.d];exact hh) (ac (ab (kPa aa aa (ad (ac (ab ?_)))))))))))
 refine kPf dQ isAgg146 aa aa aa aa ?_
 refine aU aa (au call89 aa) (mU B _ bs h.S s (hW.sw ho).1 (hW.sw ho).2) .free aa aa ?_ ?_
 rotate_left
 ·rintro _ _ ⟨s9,hm9,rfl,rfl⟩
  exact bi fun w hh=>⟨_,⟨s9,by unfold HpS.commit;rw[if_pos ho,hm9];rfl,rfl,rfl⟩,by rw[hW.k.d] at hh;exact hh.dp [1,1,1]⟩
 rintro _ _ ⟨S2,s2,hm2,rfl,rfl⟩
 refine kPa aa aa (ad (az ?_))
 exact aq results49 aa (fun w hw=>⟨_,⟨0,{h with o:=false,S:=S2},s2,by unfold HpS.commit;rw[if_pos ho,hm2];rfl,rfl,rfl⟩,by rw[hW.k.d] at hw;exact wM (h:={h with o:=false,S:=S2}) (bs:=bs) (bt:=bt) (x:=x) aa (hw.pk [2,0,1,1])⟩)
theorem tZ(B:World)(Fr:List HP)(bh:Nat)(h:HpS)(s:Dev)(hW:ei h s)(ho:h.o=false):
 ∀ w,Holds B (dH bh h::aB h.bd s::Fr) w→Calls Tryz.prog 49 [ptr bh].toArray w (Ret B (fun rv H'=>∃ a h' s',h.commit s= .ok (a,h') s'∧rv=i64 a∧H'=dH bh h'::aB h.bd s'::Fr) (fun ch H'=>∃ s',h.commit s= .off s'∧ch=dV∧H'=aB h.bd s'::Fr)):=by
 refine an func49 aa ntmps49 aa (iN fun bs bt x=>(aP [1] (aM (H':=fC bs h.S::_) (fun w hh=>by rw[ho] at hh;exact hh) (ac (ab (kPa aa aa (ad (ac (ab (kPf dQ isAgg146 aa aa aa aa (aw aa (au call89 aa) (bI (q:=fC) (fun Fr=>th B Fr bs h.S)) .free aa aa ?_)))))))))))
 refine kPa aa aa (ad (az ?_))
 exact aq results49 aa (fun w hw=>⟨_,⟨2,h,s,by unfold HpS.commit;rw[if_neg (by rw[ho];decide)],rfl,rfl⟩,wM (bs:=bs) (bt:=bt) (x:=x) ho (hw.pk [1])⟩)
theorem vt(B:World)(Fr:List HP)(bh:Nat)(h:HpS)(s:Dev)(hW:ei h s):∀ w,Holds B (dH bh h::aB h.bd s::Fr) w→Calls Tryz.prog 49 [ptr bh].toArray w (Ret B (fun rv H'=>∃ a h' s',h.commit s= .ok (a,h') s'∧rv=i64 a∧H'=dH bh h'::aB h.bd s'::Fr) (fun ch H'=>∃ s',h.commit s= .off s'∧ch=dV∧H'=aB h.bd s'::Fr)):=by
 cases ho:h.o
 ·exact tZ B Fr bh h s hW ho
 ·exact tY B Fr bh h s hW ho
theorem zO(B:World)(Fr:List HP)(c1 x:Nat)(X:bE)(p:Int)(hp:0≤p∧p≤1000000):
 ∀ w,Holds B (row c1 [ptr x] 147::eY x X::Fr) w→Calls Tryz.prog 187 [i64 p,ptr c1].toArray w (aZ B (row c1 [ptr x] 147::eY x X::Fr) (i64 (p9 X p))):=by
 refine an func187 aa ntmps187 aa (ac (ab (kPa aa aa (ad (ac (ab (kPv (ah isAgg147 aa aa) aa (kPm aa aa (kPv (dh runUnderlying3 runUnderlying25 aa (fQ (by omega))) aa (aw aa (au call118 aa) (bI (q:=eY) (fun Fr=>ut B Fr x X p)) .free aa aa ?_))))))))))
 refine kPa aa aa (ad (az ?_))
 exact aq results187 aa (fun w hw=>⟨rfl,hw⟩)
theorem Bx(B:World)(c1 x:Nat)(X:bE):CS B 187 [] [ptr c1] Unit (fun _=>[row c1 [ptr x] 147,eY x X]) (fun p=>0≤p∧p≤1000000) (p9 X) (fun _ e=>e) where
 enter:=call187
 says:=fun Fr p e hp w hw=>(zO B Fr c1 x X p hp w hw).mono fun en w' h=>by
  obtain⟨rfl,h⟩:=h
  exact⟨_,⟨rfl,rfl⟩,h⟩
theorem vr(B:World)(Fr:List HP)(bh bs bt x:Nat)(h:HpS)(s:Dev)(X:bE)(hx:h.X=some X)(ho:h.o=false)(hX:fp X)(hrl0:0<X.b.rts.length)(hu:U64 s)(hK:A3 h.S h.bd h.c s)(htp:∀ p∈h.T.at_,0≤p.2∧p.2≤1000000):
 ∀ w,Holds B (cH bh bs bt x h::fC bs h.S::gc bt h.T::eY x X::aB h.bd s::Fr) w→Calls Tryz.prog 136 [ptr bh].toArray w (Ret B (fun rv H'=>∃ a h' s',h.finR X s a h' s'∧rv=i64 a∧H'=dH bh h'::aB h.bd s'::Fr) (fun ch H'=>∃ s',i6 h.c X.block h.S s= .off s'∧ch=dV∧H'=aB h.bd s'::Fr)):=by
 refine an func136 aa ntmps136 aa (aM (H':=row bh [ptr h.bd,i64 h.c.log,i64 h.c.roots,i64 h.c.space,ptr bs,ptr bt,ptr x] 149::_) (fun w hh=>by have h9:=hh;unfold cH at h9;rw[hx] at h9;exact h9) (ac (ab (kPa aa aa (ad (ac (ab (kPf kr isAgg147 aa aa aa aa (kPb (cf zeroValue147 aa) aa fun b3=> ?_)))))))))
 refine kPs (aO sizeOf147 aa aa (by first | rfl | assumption) rfl) rfl ?_;refine ad ?_;refine ac ?_;refine ab ?_;refine kPm aa aa ?_;refine kPv (aI aa) aa ?_;refine kPv (aD (m:=_) kr aa aa) aa ?_
 refine kPs (aO sizeOf147 aa aa (by first | rfl | assumption) rfl) rfl ?_;refine ad ?_;refine am [3,2,0] rfl ?_;refine ac ?_;refine ac ?_;refine aP [1,0] ?_;refine aM (H':=cH bh bs bt x {h with X:=none}::row b3 [ptr x] 147::_) (fun w hh=>hh) ?_;refine cQ 13 Tryz.mixed (by kernel_rfl) (by kernel_rfl) ?_;refine kQm aa aa ?_;refine kQv (aI aa) aa ?_;refine kQv (aD (m:=_) ir aa aa) aa ?_
 refine kQv (ah isAgg90 aa aa) aa (kQm aa aa (kQv (aI aa) aa (kQv (aD (m:=_) ed aa aa) aa (kQv (ag isAgg134 sizeOf134 aa aa) aa ?_))))
 refine kQm aa aa (kQv (aI aa) aa (kQv (aD (m:=_) dQ aa aa) aa (kQv (ah isAgg146 aa aa) aa (kQv (ah isAgg147 aa aa) aa (bY (aP [2,3,3] ?_))))))
 refine aU aa (au call172 aa) (wY B _ bs x h.bd h.S X hX hrl0 h.c s hu hK) .free aa aa ?_ ?_
 rotate_left
 ·rintro _ _ ⟨s9,hm9,rfl,rfl⟩
  exact bi fun w hh=>⟨_,⟨s9,hm9,rfl,rfl⟩,hh.dp [1,1,1]⟩
 rintro _ _ ⟨a2,S2,s2,hm2,rfl,rfl⟩
 refine kPa aa aa (ad (am [4,3,2,0] rfl (ac (ab (kPm aa aa (kPv (ao aa aa aa) aa (ad ?_)))))))
 refine a8 aa (fun h27=> ?_) (fun h27=> ?_)
 ·have ha2:a2≠0:=by simpa using h27
  refine ac (ab (kPm aa aa (kPa aa aa (ad (az ?_)))))
  exact aq results136 aa (fun w hw=>⟨_,⟨a2,{h with X:=none,S:=S2},s2,⟨S2,hm2,.inl ⟨ha2,rfl⟩⟩,rfl,rfl⟩,tV (h:={h with X:=none,S:=S2}) (bs:=bs) (bt:=bt) (x:=x) ho aa ((hw.dp [1,3]).pk [2,0,1])⟩)
 ·have ha2:a2=0:=by simpa using h27
  refine ar (ac (ab (kPf jd isAgg130 aa aa aa aa (kPv (dz aa aa) aa (aP [5,4,1] (aH aa (au call186 aa) ((fun w hh=>x4 B _ bt h.T _ [] [ptr b3] Unit _ _ _ _ (Bx B b3 x X) htp () w hh)) .free aa aa ?_))))))
  rintro _ _ ⟨ord,hperm,rfl⟩
  refine aM (H':=gc bt (gB.moved (p9 X) h.T.last ord)::row b3 [ptr x] 147::eY x X::fC bs S2::aB h.bd s2::cH bh bs bt x {h with X:=none}::Fr) (fun w hh=>hh) (ad (am [2] rfl (ac (ab (kPa aa aa (ad (az ?_)))))))
  exact aq results136 aa (fun w hw=>⟨_,⟨0,{h with X:=none,S:=S2,T:=gB.moved (p9 X) h.T.last ord},s2,⟨S2,by rw[←ha2];exact hm2,.inr ⟨rfl,ord,hperm,rfl⟩⟩,rfl,rfl⟩,tV (h:={h with X:=none,S:=S2,T:=gB.moved (p9 X) h.T.last ord}) (bs:=bs) (bt:=bt) (x:=x) ho aa ((hw.dp [1,1]).pk [3,1])⟩)
theorem vj{k:Int}{v:Int}:∀ {l:List (Int×Int)} {p:Int×Int},p∈mset l k v→p.2=v∨p∈l
 | [],p,h=>by
   simp only[mset,List.mem_singleton] at h
   exact .inl (by rw[h])
 | q::l,p,h=>by
   unfold mset at h
   split at h
   ·rcases List.mem_cons.1 h with h | h
    ·exact .inl (by rw[h])
    ·exact .inr (List.mem_cons_of_mem _ h)
   ·rcases List.mem_cons.1 h with h | h
    ·exact .inr (by rw[h];exact List.mem_cons_self ..)
    ·exact(vj h).imp id (List.mem_cons_of_mem _)
theorem wz{to_:Int→Int}{P:Int→Prop}(hP:∀ p,P (to_ p)):∀ (ord:List (Int×Int)) (x:List (Int×Int)×List (Int×Int)),(∀ p∈x.1,P p.2)→(∀ p∈(ord.foldl (dy to_) x).1,P p.2)∧(ord.foldl (dy to_) x).1.length≤x.1.length+ord.length
 | [],x,h=>⟨h,by simp⟩
 | a::t,x,h=>by
   simp only[List.foldl_cons,List.length_cons]
   have hx:(∀ p∈(dy to_ x a).1,P p.2)∧(dy to_ x a).1.length≤x.1.length+1:=by
    unfold dy
    split
    ·refine⟨fun p hp=> ?_,oK ..⟩
     rcases vj hp with e | e
     ·rw[e];exact hP _
     ·exact h p e
    ·exact⟨h,by omega⟩
   have:=wz hP t _ hx.1
   exact⟨this.1,by omega⟩
theorem ei.moved{h:HpS}{s s':Dev}(hW:ei h s){to_:Int→Int}(hto:∀ p,0≤to_ p∧to_ p≤1000000){ord:List (Int×Int)}(hp:ord.Perm h.T.at_){S':bC}(hL:dK S'.L)(hd:S'.L.d=h.bd)(hc:S'.L.c=h.c)(hu:U64 s')(hn:s'.n=s.n):ei {h with X:=none,o:=false,S:=S',T:=gB.moved to_ h.T.last ord} s':=by
 obtain⟨g1,g2⟩:=wz (to_:=to_) (P:=fun v=>0≤v∧v≤1000000) hto ord ([],[]) (fun _ h=>by cases h)
 exact⟨hW.c,⟨hL,by rw[hn];exact hW.k.n,hd,hc⟩,fun h=>(by cases h),hu,hW.t1,by
  show(ord.foldl (dy to_) ([],[])).1.length≤_
  have h1:=hp.length_eq;have h2:=hW.tl
  simp only[List.length_nil] at g2;omega,g1,fun X hX=>(by cases hX)⟩
theorem HpS.words_b{h:HpS}{s:Dev}(hW:ei h s):(∀ v∈h.words,0≤v∧v<18446744073709551616)∧h.words.length≤800000:=
 ⟨fun v hv=>by
  obtain⟨n,_,rfl⟩:=List.mem_map.1 hv
  have:=hW.pb n;omega,by have:=hW.tl;simp[HpS.words,bZ];exact this⟩
abbrev HpS.ncol(h:HpS)(s:Dev):bE:=eA h.bd h.c (h.blk s) ((h.blk s).rts++h.words)
theorem ei.ncol{h:HpS}{s:Dev}(hW:ei h s):fp (h.ncol s):=
 lQ hW.c (dG hW.c hW.u) (fK hW.c) (fJ hW.u) (fun v hv=>by
  rcases List.mem_append.1 hv with hv | hv
  ·exact fJ hW.u v hv
  ·exact(HpS.words_b hW).1 v hv)
theorem Ee{h:HpS}{s s1:Dev}{X:bE}{a:Int}{h':HpS}{s':Dev}(hW:ei h s)(ho:h.o=false)(hX:fp X)(hu:U64 s1)(hn:s1.n=s.n)(e:h.finR X s1 a h' s'):ei h' s'∧h'.o=false∧h'.X=none∧h'.bd=h.bd∧h'.c=h.c:=by
 obtain⟨S',e1,hor⟩:=e
 obtain⟨k1,k2,k3,k4,k5,_⟩:=zZ (uC hX) hW.k.w hu (by rw[hn];exact hW.k.n) e1
 rcases hor with ⟨_,rfl⟩ | ⟨_,ord,hp,rfl⟩
 ·exact⟨⟨hW.c,⟨k3,by rw[k2,hn];exact hW.k.n,k4.trans hW.k.d,k5.trans hW.k.c⟩,fun h2=>(by rw[show h.o=true from h2] at ho;cases ho),k1,hW.t1,hW.tl,hW.tp,fun X hX=>(by cases hX)⟩,ho,rfl,rfl,rfl⟩
 ·have h1:=hW.moved (fun p=>hX.vb p) hp k3 (k4.trans hW.k.d) (k5.trans hW.k.c) k1 (k2.trans hn)
  rw[←ho] at h1
  exact⟨h1,ho,rfl,rfl,rfl⟩
theorem En{h:HpS}{s:Dev}{a:Int}{h':HpS}{s':Dev}(hW:ei h s)(ho:h.o=false)(e:h.colR s a h' s'):ei h' s'∧h'.o=false∧h'.X=none∧h'.bd=h.bd∧h'.c=h.c:=by
 rcases e with ⟨h1,_⟩ | ⟨_,X,s1,e1,e2⟩
 ·rw[ho] at h1;cases h1
 ·obtain⟨g1,g2,_⟩:=ou _ _ _ _ _ hW.ncol hW.u e1
  exact Ee hW ho g1 g2 (wm e1) e2
theorem rN(B:World)(Fr:List HP)(bh:Nat)(h:HpS)(s:Dev)(hW:ei h s)(hb:(s.block h.c).2=0):
 ∀ w,Holds B (dH bh h::aB h.bd s::Fr) w→Calls Tryz.prog 82 [ptr bh].toArray w (Ret B (fun rv H'=>∃ a h' s',h.colR s a h' s'∧rv=i64 a∧H'=dH bh h'::aB h.bd s'::Fr) (fun ch H'=>∃ s',h.colOff s s'∧ch=dV∧H'=aB h.bd s'::Fr)):=by
 refine an func82 aa ntmps82 aa (iN fun bs bt x=> ?_)
 have hbk:=dG (s:=s) hW.c hW.u
 have hbl:(h.blk s).rts.length≤16:=fK (s:=s) hW.c
 obtain⟨hwb,hwl⟩:=HpS.words_b hW
 refine ac (ab (kPa aa aa (ad (ac (ac (ab (kPf dQ isAgg146 aa aa aa aa (aw aa (au call80 aa) (bI (q:=nq h.o) (fun Fr=>kH B Fr bs h.S h.o)) .free aa aa ?_))))))))
 refine ad ?_
 refine a8 aa (fun h8=> ?_) (fun h8=> ?_)
 ·have ho:h.o=true:=by simpa using h8
  refine ac (ab (kPa aa aa (ad (az ?_))))
  exact aq results82 aa (fun w hw=>⟨_,⟨2,h,s,.inl ⟨ho,rfl,rfl,rfl⟩,rfl,rfl⟩,et (bs:=bs) (bt:=bt) (x:=x) hw⟩)
 ·have ho:h.o=false:=by simpa using h8
  refine aP [1] (aM (H':=fC bs h.S::_) (fun w hh=>by rw[ho] at hh;exact hh) (ar (ac (ab (kPm aa aa (aP [1,3] (aH aa (au call81 aa) (gz B _ bh bs bt x h s hW.c hW.u) .free aa aa ?_)))))))
  rintro _ _ ⟨sv,hsv,rfl,rfl⟩
  refine cE fun qb cb hqb hqbi=> ?_
  subst hqb
  refine kPb (aC zeroValue151 aa) aa fun b3=> ?_
  refine kPs (ax (vs:=_) sizeOf151 aa aa aa (by first | rfl | exact eh (by assumption)) rfl) rfl ?_;refine ad ?_;refine am [3,2,0] rfl ?_;refine ac ?_;refine aM (H':=row b3 [i64 (h.blk s).act,i64 (h.blk s).used,.slice qb (h.blk s).rts.length cb] 151::_) (fun w hh=>hh) ?_
  refine cW [0,1,2,3,4,5,6,7,8,9,11,12,14,10,13,15,16,17,18,19,20] [10,13,15,16,17,20] [0,1,2,3,4,5,6,7,8,9,11,12,14] [10,13,15,16,17] [cH bh bs bt x h,row b3 [i64 (h.blk s).act,i64 (h.blk s).used,.slice qb (h.blk s).rts.length cb] 151] Tryz.mixed (by kernel_rfl) ?_
  refine aj aa aa aa (ak aa) .free aa (aj aa aa aa (ak aa) .free aa (aj aa aa aa (aI aa) .free aa (aj aa aa aa (aD (m:=_) ir aa aa) .free aa (aj aa aa aa (ah isAgg90 aa aa) .free aa (aj aa aa aa (ak aa) .free aa (aj aa aa aa (aI aa) .free aa (aj aa aa aa (aD (m:=_) ed aa aa) .free aa (aj aa aa aa (ag isAgg134 sizeOf134 aa aa) .free aa ?_))))))))
  refine aj aa aa aa (ag isAgg151 sizeOf151 aa aa) .free aa ?_
  refine aj aa aa aa (aD (m:=_) fh aa aa) .free aa (aj aa aa aa (ah isAgg30 aa aa) .free aa (aj aa aa aa (ak aa) .free aa (aT aa aa (kPb (r6 runUnderlying30 sizeOf25) aa fun b21=>(aM (H':=cS 0 (.slice (some ⟨b21,0,none⟩) 0 0,[])::_) (fun w hh=>gX (xs:=[]) aa aa hh) (ad (cN (aT aa aa (cJ aa (ee (yv:= .slice qb (h.blk s).rts.length cb) (ys:=(h.blk s).rts) aa aa runUnderlying30 runUnderlying30 ⟨_,rfl⟩ sizeOf25 zeroValue25 aa (fun _=>rfl) hO aa aa (cP (2 - 1) aa) (by simp;omega)) .free aa aa ?_)))))))))
  rintro nv2 _ ⟨hnv2,rfl⟩
  refine ad (cN (aT aa aa (aP [3,5] (aH aa (au call134 aa) (qA B _ bh bs bt x h s hW) .free aa aa ?_))))
  rintro wv _ ⟨hwv,rfl⟩
  refine cE fun qw cw hqw hqwi=> ?_
  subst hqw
  refine ad (cN (aT aa aa (aP [3] (cJ aa (ee (yv:= .slice qw h.words.length cw) (ys:=h.words) aa aa runUnderlying30 runUnderlying30 ⟨_,rfl⟩ sizeOf25 zeroValue25 aa (fun _=>rfl) hO aa aa (cP (1 - 1) aa) (by simp;omega)) .free aa aa ?_))))
  rintro nv3 _ ⟨hnv3,rfl⟩
  refine cE fun qn cn hqn0 hqni=> ?_
  subst hqn0
  have hqn:qn=none→(h.blk s).rts++h.words=[]:=fun e=>by
   cases hl:(h.blk s).rts++h.words with
   | nil=>rfl
   | cons a t=>
     obtain⟨b,o,h⟩:=hqni 0 (by show 0<((h.blk s).rts++h.words).length;rw[hl];exact Nat.succ_pos _)
     rw[e] at h;cases h
  refine ad (cN (aT aa aa (aP [5] (aH aa (au call133 aa) (sm B _ h.bd h.c hW.c (h.blk s) hbk (.slice qb (h.blk s).rts.length cb) aa qn cn ((h.blk s).rts++h.words) (by simp;omega) hqn (cP 1 aa)) .free aa aa ?_))))
  rintro _ _ ⟨x2,rfl,rfl⟩
  refine ad (cN (aS aa aa aa (aI aa) .free aa (aS aa aa aa (aD (m:=_) kr aa aa) .free aa (aT aa aa (aP [3] (kPs (aO sizeOf147 aa aa aa aa) aa (aM (H':=cH bh bs bt x2 {h with X:=some (h.ncol s)}::_) (fun w hh=>hh) (ad (c7 aa (cy (am [2,0] rfl ?_)))))))))))
  refine ac (ab (kPf kr isAgg147 aa aa aa aa (aP [1,5] ?_)))
  refine aU aa (au call135 aa) (xd B _ x2 (h.ncol s) hW.ncol s hW.u) .free aa aa ?_ ?_
  rotate_left
  ·rintro _ _ ⟨s9,hm9,rfl,rfl⟩
   exact bi fun w hh=>⟨_,⟨s9,⟨ho,.inl hm9⟩,rfl,rfl⟩,(show Holds B (aB h.bd s9::_) w from hh).dp [1,1,1,1,1,1,1]⟩
  rintro _ _ ⟨X,s1,hm1,rfl,rfl⟩
  obtain⟨hX1,hu1,hXb,hXbd,hXc,_⟩:=ou _ _ _ _ _ hW.ncol hW.u hm1
  have hn1:=wm hm1
  refine aM (H':=eY x2 X::aB h.bd s1::_) (fun w hh=>hh) (ad (ac (aP [2] (aM (H':=cH bh bs bt x2 {h with X:=some X}::_) (fun w hh=>hh) (ab (kPm aa aa (aP [0,6,4,0,0] ?_)))))))
  refine aU aa (au call136 aa) (vr B _ bh bs bt x2 {h with X:=some X} s1 X aa ho hX1 (by rw[hXb];exact qY hW.c hb) hu1 ⟨hW.k.w,by rw[hn1];exact hW.k.n,hW.k.d,hW.k.c⟩ hW.tp) .free aa aa ?_ ?_
  rotate_left
  ·rintro _ _ ⟨s9,hm9,rfl,rfl⟩
   exact bi fun w hh=>⟨_,⟨s9,⟨ho,.inr ⟨X,s1,hm1,hm9⟩⟩,rfl,rfl⟩,(show Holds B (aB h.bd s9::_) w from hh).dp [1,1,1,1]⟩
  rintro _ _ ⟨a2,h2,s2,hf2,rfl,rfl⟩
  refine kPa aa aa (ad (am [2] rfl (az ?_)))
  exact aq results82 aa (fun w hw=>⟨_,⟨a2,h2,s2,.inr ⟨ho,X,s1,hm1,hf2⟩,rfl,rfl⟩,(hw.dp [2,2,2,2])⟩)
def HpS.opened(h:HpS)(s:Dev):HpS:={h with o:=true,S:=h.S.fresh ((h.blk s).place h.c (h.blk s).used) ((h.blk s).place h.c h.c.space)}
def HpS.begR(h:HpS)(s:Dev)(room a:Int)(h':HpS)(s':Dev):Prop:=
 (h.o=true∧a=2∧h'=h∧s'=s)∨(h.o=false∧room<0∧a=1∧h'=h∧s'=s)∨
 (h.o=false∧0≤room∧∃ a1 h1 s1,((h.c.space - (h.blk s).used<room∧HpS.colR {h with X:=none} s a1 h1 s1)∨(¬ h.c.space - (h.blk s).used<room∧a1=0∧h1={h with X:=none}∧s1=s))∧
  ((a1≠0∧a=a1∧h'=h1∧s'=s1)∨(a1=0∧h.c.space - (h1.blk s1).used<room∧a=4∧h'=h1∧s'=s1)∨(a1=0∧¬ h.c.space - (h1.blk s1).used<room∧a=0∧h'=h1.opened s1∧s'=s1)))
theorem uc(B:World)(H:List HP)(c:Cfg)(hc:bA c)(b:Blk)(sv:Value)(hb:gh c b)(hsv:aL sv=true):
 ∀ w,Holds B H w→Calls Tryz.prog 84 [dY c,ly b sv].toArray w (aZ B H (.agg #[i64 (b.place c b.used),i64 (b.place c c.space)])):=by
 refine an func84 aa ntmps84 aa ?_
 have h1:=hb.used
 have h2:=hc.s1
 have h3:=hc.s2
 refine ac (ab (kPb (aX aa) aa fun b2=>(kPb (aX aa) aa fun b3=>(kPb (aC zeroValue155 aa) aa fun b4=>(ad (ac (cQ 11 Tryz.mixed (by kernel_rfl) (by kernel_rfl) ?_)))))))
 refine kQv (ag isAgg151 sizeOf151 aa aa) aa ?_
 refine kQv (ag isAgg134 sizeOf134 aa aa) aa ?_
 refine kQv (aD (m:=_) dE aa aa) aa (kQv (ah isAgg3 aa aa) aa (bG aa (au call137 aa) (ib _ _ c hc b sv hb hsv _ (by omega)) .free aa ?_))
 refine kQv (ag isAgg151 sizeOf151 aa aa) aa ?_
 refine kQv (ag isAgg134 sizeOf134 aa aa) aa ?_
 refine kQv (aD (m:=_) fj aa aa) aa (kQv (ah isAgg3 aa aa) aa (bG aa (au call137 aa) (ib _ _ c hc b sv hb hsv _ (by omega)) .free aa ?_))
 refine kQv (aQ aa (uM _ _ aa aa)) aa (bY (kPs (ax (vs:=_) sizeOf155 aa aa aa aa aa) aa (ad (am [4] rfl (az ?_)))))
 exact qh results84 (.cellA aa isAgg155 sizeOf155 aa aa) (fun w hw=>⟨rfl,(hw.dp [0,0,0])⟩)
theorem x6(B:World)(Fr:List HP)(bh:Nat)(h:HpS)(s:Dev)(hW:ei h s)(hb:(s.block h.c).2=0)(room:Int):
 ∀ w,Holds B (dH bh h::aB h.bd s::Fr) w→Calls Tryz.prog 46 [ptr bh,i64 room].toArray w (Ret B (fun rv H'=>∃ a h' s',h.begR s room a h' s'∧rv=i64 a∧H'=dH bh h'::aB h.bd s'::Fr) (fun ch H'=>∃ s',(fun s'=>h.o=false∧h.c.space - (h.blk s).used<room∧HpS.colOff {h with X:=none} s s') s'∧ch=dV∧H'=aB h.bd s'::Fr)):=by
 refine an func46 aa ntmps46 aa (iN fun bs bt x=> ?_)
 have hbk:=dG (s:=s) hW.c hW.u
 have hbu:0≤(h.blk s).used∧(h.blk s).used≤h.c.space:=hbk.used
 have hs2:=hW.c.s2
 have hs1':=hW.c.s1
 have hbu1:0≤(HpS.blk {h with X:=none} s).used∧(HpS.blk {h with X:=none} s).used≤h.c.space:=hbk.used
 have hW1:ei {h with X:=none} s:=⟨hW.c,hW.k,hW.sw,hW.u,hW.t1,hW.tl,hW.tp,fun X h=>(by cases h)⟩
 refine ac (ab (kPa aa aa (ad (ac (aG (ac (ab (kPf dQ isAgg146 aa aa aa aa (aw aa (au call80 aa) (bI (q:=nq h.o) (fun Fr=>kH B Fr bs h.S h.o)) .free aa aa ?_)))))))))
 refine kPa aa aa (ad ?_)
 refine a8 aa (fun h7=> ?_) (fun h7=> ?_)
 ·have ho:h.o=true:=by simpa using h7
  refine ac (ab (kPa aa aa (ad (az ?_))))
  exact aq results46 aa (fun w hw=>⟨_,⟨2,h,s,.inl ⟨ho,rfl,rfl,rfl⟩,rfl,rfl⟩,et (bs:=bs) (bt:=bt) (x:=x) hw⟩)
 ·have ho:h.o=false:=by simpa using h7
  refine aP [1] (aM (H':=fC bs h.S::_) (fun w hh=>by rw[ho] at hh;exact hh) (ac (ab (kPm aa aa (kPv (ao aa aa aa) aa (kPa aa aa (ad (am [13,4,0,1] rfl ?_))))))))
  refine a8 aa (fun h13=> ?_) (fun h13=> ?_)
  ·have hr0:room<0:=by simpa using h13
   refine ac (ab (kPa aa aa (ad (az ?_))))
   exact aq results46 aa (fun w hw=>⟨_,⟨1,h,s,.inr (.inl ⟨ho,hr0,rfl,rfl,rfl⟩),rfl,rfl⟩,wM (bs:=bs) (bt:=bt) (x:=x) ho (hw.pk [1])⟩)
  ·have hr0:0≤room:=by simpa using h13
   refine ar (ac (ab (kPm aa aa (kPv (aI aa) aa (kPv (aD (m:=_) kr aa aa) aa ?_)))))
   refine kPs (aO sizeOf147 aa aa (by first | rfl | assumption) rfl) rfl ?_;refine ad ?_;refine ac ?_;refine ac ?_;refine aP [1] ?_;refine aM (H':=cH bh bs bt x {h with X:=none}::_) (fun w hh=>hh) ?_
   refine cW [0,1,2,3,4,5,6,7,8,9,10] [7] [0,1,2,3,4,5] [7] [cH bh bs bt x {h with X:=none}] Tryz.mixed (by kernel_rfl) ?_
   refine aj aa aa aa (ak aa) .free aa (aj aa aa aa (ak aa) .free aa (aj aa aa aa (aI aa) .free aa (aj aa aa aa (aD (m:=_) ed aa aa) .free aa (aj aa aa aa (aD (m:=_) fj aa aa) .free aa (aj aa aa aa (ah isAgg3 aa aa) .free aa (aS aa aa aa (ak aa) .free aa (aT aa aa (aP [0,3] (aH aa (au call81 aa) (gz B _ bh bs bt x {h with X:=none} s hW.c hW.u) .free aa aa ?_)))))))))
   rintro _ _ ⟨sv,hsv,rfl,rfl⟩
   refine cE fun qb cb hqb hqbi=> ?_
   subst hqb
   refine ad (cN (aS aa aa aa (hG runUnderlying151 (t:=3) (off:=1) aa isAgg3 aa aa) .free aa (aS aa aa aa (pq (c:=h.c.space - (h.blk s).used) aa aa (show IntKind.i64.wrap (h.c.space - (h.blk s).used)=_ from gV (by omega))) .free aa (aS aa aa aa (ao aa aa aa) .free aa (cy (am [29,4,0,1] rfl ?_))))))
   refine a8 aa (fun h29=> ?_) (fun h29=> ?_)
   ·have hroom:(h.c.space - (h.blk s).used<room):=by simpa using h29
    refine aM (H':=dH bh {h with X:=none}::aB h.bd s::Fr) (fun w hh=>tV (h:={h with X:=none}) (bs:=bs) (bt:=bt) (x:=x) ho aa ((hh.dp [0,4]).pk [0,1,1])) (ac (ab (kPm aa aa ?_)))
    refine aU aa (au call82 aa) (rN B _ bh {h with X:=none} s hW1 hb) .free aa aa ?_ ?_
    rotate_left
    ·rintro _ _ ⟨s9,hm9,rfl,rfl⟩
     exact bi fun w hh=>⟨_,⟨s9,⟨ho,hroom,hm9⟩,rfl,rfl⟩,(show Holds B (aB h.bd s9::_) w from hh)⟩
    rintro _ _ ⟨a1,h1,s1,hr1,rfl,rfl⟩
    obtain⟨hW2,ho2,hx2,hbd2,hc2⟩:=En hW1 ho hr1
    have hbd3:h1.bd=h.bd:=hbd2
    have hc3:h1.c=h.c:=hc2
    refine kPa aa aa (ad (ac (ab (kPm aa aa (kPv (ao aa aa aa) aa (ad ?_))))))
    refine a8 aa (fun h33=> ?_) (fun h33=> ?_)
    ·have ha1:a1≠0:=by simpa using h33
     refine ac (ab (kPm aa aa (kPa aa aa (ad (am [4,0,1] rfl (az ?_))))))
     exact aq results46 aa (fun w hw=>⟨_,⟨a1,h1,s1,.inr (.inr ⟨ho,hr0,a1,h1,s1,.inl ⟨hroom,hr1⟩,.inl ⟨ha1,rfl,rfl,rfl⟩⟩),rfl,rfl⟩,hw⟩)
    ·have ha1:a1=0:=by simpa using h33
     refine ar (ac (iN fun bs2 bt2 x2=>(aP [0,3] (aM (H':=cH bh bs2 bt2 x2 h1::aB h1.bd s1::_) (fun w hh=>by rw[hbd3];exact hh) ?_))))
     have hbk2:=dG (s:=s1) hW2.c hW2.u
     have hbu2:0≤(h1.blk s1).used∧(h1.blk s1).used≤h1.c.space:=hbk2.used
     have hs3:=hW2.c.s2
     refine ab (kPm aa aa (aH aa (au call81 aa) (gz B _ bh bs2 bt2 x2 h1 s1 hW2.c hW2.u) .free aa aa ?_))
     rintro _ _ ⟨sv,hsv,rfl,rfl⟩
     refine cE fun qb cb hqb hqbi=> ?_
     subst hqb
     refine kPb (aC zeroValue151 aa) aa fun b6=> ?_
     refine kPs (ax (vs:=_) sizeOf151 aa aa aa (by first | rfl | exact eh (by assumption)) rfl) rfl ?_;refine ad ?_;refine am [6,4,0,1] rfl ?_;refine ac ?_;refine ac ?_;refine aM (H':=row b6 [i64 (h1.blk s1).act,i64 (h1.blk s1).used,.slice qb (h1.blk s1).rts.length cb] 151::_) (fun w hh=>hh) ?_;refine cV Tryz.mixed (by kernel_rfl) (by kernel_rfl) ?_;refine kQm aa aa ?_
     refine kQm aa aa (kQv (aI aa) aa (kQv (aD (m:=_) ed aa aa) aa (kQv (aD (m:=_) fj aa aa) aa (kQv (ah isAgg3 aa aa) aa (kQv (aD (m:=_) dE aa aa) aa (kQv (ah isAgg3 aa aa) aa (kQv (fu aa aa) aa (kQv (ao aa aa aa) aa (bY (am [46,6,4,0] rfl ?_))))))))))
     refine a8 aa (fun h46=> ?_) (fun h46=> ?_)
     ·have hr2:h.c.space - (h1.blk s1).used<room:=by rw[←hc3];simpa using h46
      refine ac (ab (kPa aa aa (ad (az ?_))))
      exact aq results46 aa (fun w hw=>⟨_,⟨4,h1,s1,.inr (.inr ⟨ho,hr0,a1,h1,s1,.inl ⟨hroom,hr1⟩,.inr (.inl ⟨ha1,hr2,rfl,rfl,rfl⟩)⟩),rfl,rfl⟩,by
   have h9:=et (h:=h1) (bs:=bs2) (bt:=bt2) (x:=x2) ((hw.dp [0,0]).pk [0,1,1,1])
   rw[hbd3] at h9;exact h9⟩)
     ·have hr2:¬ h.c.space - (h1.blk s1).used<room:=by rw[←hc3];simpa using h46
      refine aP [4] (aM (H':=fC bs2 h1.S::_) (fun w hh=>by rw[ho2] at hh;exact hh) (ar (ac (cQ 10 Tryz.mixed (by kernel_rfl) (by kernel_rfl) ?_))))
      refine kQm aa aa (kQv (aI aa) aa (kQv (aD (m:=_) dQ aa aa) aa (kQv (ah isAgg146 aa aa) aa (kQm aa aa (kQv (aI aa) aa (kQv (aD (m:=_) ed aa aa) aa (kQv (ag isAgg134 sizeOf134 aa aa) aa ?_)))))))
      refine kQv (ag isAgg151 sizeOf151 aa aa) aa ?_
      refine bG aa (au call84 aa) (uc _ _ h1.c hW2.c (h1.blk s1) (.slice qb (h1.blk s1).rts.length cb) hbk2 aa) .free aa ?_
      refine bY (dC aa (au call83 aa) (jx B _ bs2 h1.S _ _) .free aa aa ?_)
      refine kPa aa aa (ad (am [4] rfl (az ?_)))
      exact aq results46 aa (fun w hw=>⟨_,⟨0,h1.opened s1,s1,.inr (.inr ⟨ho,hr0,a1,h1,s1,.inl ⟨hroom,hr1⟩,.inr (.inr ⟨ha1,hr2,rfl,rfl,rfl⟩)⟩),rfl,rfl⟩,by
   have h9:=qI rfl (h:=h1.opened s1) (bs:=bs2) (bt:=bt2) (x:=x2) ((hw.dp [1,1]).pk [1,0,1,1])
   rw[hbd3] at h9;exact h9⟩)
   ·have hroom:¬ (h.c.space - (h.blk s).used<room):=by simpa using h29
    obtain⟨h1,hh1⟩:∃ h1:HpS,h1={h with X:=none}:=⟨_,rfl⟩
    obtain⟨s1,hs1⟩:∃ s1,s1=s:=⟨_,rfl⟩
    obtain⟨a1,ha1⟩:∃ a1:Int,a1=0:=⟨_,rfl⟩
    have hW2:ei h1 s1:=by rw[hh1,hs1];exact hW1
    have ho2:h1.o=false:=by rw[hh1];exact ho
    have hbd3:h1.bd=h.bd:=by rw[hh1]
    have hc3:h1.c=h.c:=by rw[hh1]
    refine aM (H':=dH bh h1::aB h.bd s1::Fr) (fun w hh=>by rw[hh1,hs1];exact tV (h:={h with X:=none}) (bs:=bs) (bt:=bt) (x:=x) ho aa ((hh.dp [0,4]).pk [0,1,1])) (ar (ac (iN fun bs2 bt2 x2=>(aP [0,3] (aM (H':=cH bh bs2 bt2 x2 h1::aB h1.bd s1::_) (fun w hh=>by rw[hbd3];exact hh) ?_)))))
    have hbk2:=dG (s:=s1) hW2.c hW2.u
    have hbu2:0≤(h1.blk s1).used∧(h1.blk s1).used≤h1.c.space:=hbk2.used
    have hs3:=hW2.c.s2
    refine ab (kPm aa aa (aH aa (au call81 aa) (gz B _ bh bs2 bt2 x2 h1 s1 hW2.c hW2.u) .free aa aa ?_))
    rintro _ _ ⟨sv,hsv,rfl,rfl⟩
    refine cE fun qb cb hqb hqbi=> ?_
    subst hqb
    refine kPb (aC zeroValue151 aa) aa fun b6=> ?_
    refine kPs (ax (vs:=_) sizeOf151 aa aa aa (by first | rfl | exact eh (by assumption)) rfl) rfl ?_;refine ad ?_;refine ac ?_;refine ac ?_;refine aM (H':=row b6 [i64 (h1.blk s1).act,i64 (h1.blk s1).used,.slice qb (h1.blk s1).rts.length cb] 151::_) (fun w hh=>hh) ?_;refine cV Tryz.mixed (by kernel_rfl) (by kernel_rfl) ?_;refine kQm aa aa ?_;refine kQm aa aa ?_
    refine kQv (aI aa) aa (kQv (aD (m:=_) ed aa aa) aa (kQv (aD (m:=_) fj aa aa) aa (kQv (ah isAgg3 aa aa) aa (kQv (aD (m:=_) dE aa aa) aa (kQv (ah isAgg3 aa aa) aa (kQv (fu aa aa) aa (kQv (ao aa aa aa) aa (bY (am [46,6,4,0] rfl ?_)))))))))
    refine a8 aa (fun h46=> ?_) (fun h46=> ?_)
    ·have hr2:h.c.space - (h1.blk s1).used<room:=by rw[←hc3];simpa using h46
     refine ac (ab (kPa aa aa (ad (az ?_))))
     exact aq results46 aa (fun w hw=>⟨_,⟨4,h1,s1,.inr (.inr ⟨ho,hr0,a1,h1,s1,.inr ⟨hroom,ha1,hh1,hs1⟩,.inr (.inl ⟨ha1,hr2,rfl,rfl,rfl⟩)⟩),rfl,rfl⟩,by
   have h9:=et (h:=h1) (bs:=bs2) (bt:=bt2) (x:=x2) ((hw.dp [0,0]).pk [0,1,1,1])
   rw[hbd3] at h9;exact h9⟩)
    ·have hr2:¬ h.c.space - (h1.blk s1).used<room:=by rw[←hc3];simpa using h46
     refine aP [4] (aM (H':=fC bs2 h1.S::_) (fun w hh=>by rw[ho2] at hh;exact hh) (ar (ac (cQ 10 Tryz.mixed (by kernel_rfl) (by kernel_rfl) ?_))))
     refine kQm aa aa (kQv (aI aa) aa (kQv (aD (m:=_) dQ aa aa) aa (kQv (ah isAgg146 aa aa) aa (kQm aa aa (kQv (aI aa) aa (kQv (aD (m:=_) ed aa aa) aa (kQv (ag isAgg134 sizeOf134 aa aa) aa ?_)))))))
     refine kQv (ag isAgg151 sizeOf151 aa aa) aa ?_
     refine bG aa (au call84 aa) (uc _ _ h1.c hW2.c (h1.blk s1) (.slice qb (h1.blk s1).rts.length cb) hbk2 aa) .free aa ?_
     refine bY (dC aa (au call83 aa) (jx B _ bs2 h1.S _ _) .free aa aa ?_)
     refine kPa aa aa (ad (am [4] rfl (az ?_)))
     exact aq results46 aa (fun w hw=>⟨_,⟨0,h1.opened s1,s1,.inr (.inr ⟨ho,hr0,a1,h1,s1,.inr ⟨hroom,ha1,hh1,hs1⟩,.inr (.inr ⟨ha1,hr2,rfl,rfl,rfl⟩)⟩),rfl,rfl⟩,by
   have h9:=qI rfl (h:=h1.opened s1) (bs:=bs2) (bt:=bt2) (x:=x2) ((hw.dp [1,1]).pk [1,0,1,1])
   rw[hbd3] at h9;exact h9⟩)
theorem BK{B:World}{n:Nat}{D:List Deferred}{σ:Env}{b:Nat}{o:Bool}{S:bC}{Fr:List HP}{K:Act→World→Prop}(h:∀ bl o1 o2 M,(∀ Fr w,Holds B (de b bl S o o1 o2::c6 bl S.L::M::Fr) w→Holds B (nq o b S::Fr) w)→GO B n D σ (de b bl S o o1 o2::c6 bl S.L::M::Fr) K):GO B n D σ (nq o b S::Fr) K:=by
 cases o
 ·refine kN fun bl o1 o2=> ?_
  refine aM (fun w hh=>(hh.unpr (p:=True) trivial).back 2 (by simp)) (h bl o1 o2 (pr True) fun Fr w hh=> ?_)
  exact dU ((hh.front 2 aa).pr.2)
 ·refine lW fun bl o1 o2=> ?_
  refine aM (H':=de b bl S true (some o1) (some o2)::c6 bl S.L::grp [bx .i64 bX o1 S.seen,bx .i64 bX o2 S.dirty]::Fr) (fun w hh=> ?_) (h bl _ _ _ fun Fr w hh=> ?_)
  ·exact(Holds.ungrp (l:=[bx .i64 bX o1 S.seen,bx .i64 bX o2 S.dirty]) ((hh.front 2 aa).front 3 aa |>.front 1 aa)).back 2 (by simp)
  ·exact fy ((((hh.front 2 aa).grp).front 2 aa).front 3 aa |>.front 1 aa)
structure CQ where
 used:Int
 reached:Int
 handles:Int
 records:Int
 open_:Bool
def HpS.stats(h:HpS)(s:Dev):CQ:=⟨(h.blk s).used,s.reachSize h.c (h.blk s) (h.words++(h.blk s).rts),h.T.at_.length,h.S.L.n,h.o⟩
abbrev CB(x:CQ):Value:= .agg #[i64 x.used,i64 x.reached,i64 x.handles,i64 x.records,.bool x.open_]
theorem xt(B:World)(Fr:List HP)(bs bl:Nat)(S:bC)(o:Bool)(o1 o2:Option Nat):
 ∀ w,Holds B (de bs bl S o o1 o2::Fr) w→Calls Tryz.prog 80 [ptr bs].toArray w (aZ B (de bs bl S o o1 o2::Fr) (.bool o)):=by
 refine an func80 aa ntmps80 aa (ac (ab (kPa aa aa (ad (ac (ab (kPf dP isAgg4 aa aa aa aa (kPa aa aa (ad (az ?_))))))))))
 exact aq results80 aa (fun w hw=>⟨rfl,hw⟩)
theorem qB(B:World)(Fr:List HP)(bh:Nat)(h:HpS)(s:Dev)(hW:ei h s):
 ∀ w,Holds B (dH bh h::aB h.bd s::Fr) w→Calls Tryz.prog 50 [ptr bh].toArray w (aZ B (dH bh h::aB h.bd s::Fr) (CB (h.stats s))):=by
 refine an func50 aa ntmps50 aa (iN fun bs bt x=>(aP [1] (BK fun bl o1 o2 M hM=>(aP [3] ?_))))
 have hbk:=dG (s:=s) hW.c hW.u
 have hbl:(h.blk s).rts.length≤16:=fK (s:=s) hW.c
 obtain⟨hwb,hwl⟩:=HpS.words_b hW
 have hwb2:∀ v∈h.words++(h.blk s).rts,0≤v∧v<18446744073709551616:=fun v hv=>(List.mem_append.1 hv).elim (hwb v) (fJ hW.u v)
 refine ac (ab (kPb (aC zeroValue106 aa) aa fun b2=>(ad (ac (ab (kPm aa aa (aP [1,6] (aH aa (au call81 aa) (gz B _ bh bs bt x h s hW.c hW.u) .free aa aa ?_))))))))
 rintro _ _ ⟨sv,hsv,rfl,rfl⟩
 refine cE fun qb cb hqb hqbi=> ?_
 subst hqb
 refine kPb (aC zeroValue151 aa) aa fun b3=> ?_
 refine kPs (ax (vs:=_) sizeOf151 aa aa aa (by first | rfl | exact eh (by assumption)) rfl) rfl ?_;refine ad ?_;refine ac ?_;refine aM (H':=row b3 [i64 (h.blk s).act,i64 (h.blk s).used,.slice qb (h.blk s).rts.length cb] 151::_) (fun w hh=>hh) ?_
 refine cW [0,1,2,3,4,5,6,7,8,9,10,11,14,15,16,17,20,21,22,23,24,25,26,28,29,30,31,12,13,18,19,27,32,33,34] [12,13,18,27,32,34] [0,1,2,3,4,5,6,7,8,9,10,14,15,16,17,20,21,22,23,24,25,26,28,29,30,31,19] [12,13,18,27,32] [cH bh bs bt x h,row b3 [i64 (h.blk s).act,i64 (h.blk s).used,.slice qb (h.blk s).rts.length cb] 151,de bs bl h.S h.o o1 o2] Tryz.mixed (by kernel_rfl) ?_
 refine aj aa aa aa (aD (m:=_) dE aa aa) .free aa (aj aa aa aa (ah isAgg3 aa aa) .free aa (aj aa aa aa (ak aa) .free aa (aj aa aa aa (aI aa) .free aa (aj aa aa aa (aD (m:=_) ir aa aa) .free aa (aj aa aa aa (ah isAgg90 aa aa) .free aa (aj aa aa aa (ak aa) .free aa (aj aa aa aa (aI aa) .free aa (aj aa aa aa (aD (m:=_) ed aa aa) .free aa (aj aa aa aa (ag isAgg134 sizeOf134 aa aa) .free aa ?_)))))))))
 refine aj aa aa aa (ag isAgg151 sizeOf151 aa aa) .free aa ?_
 refine aS aa aa aa (ak aa) .free aa (aj aa aa aa (ak aa) .free aa (aj aa aa aa (aI aa) .free aa (aj aa aa aa (aD (m:=_) jd aa aa) .free aa (aj aa aa aa (ah isAgg130 aa aa) .free aa (aj aa aa aa (ak aa) .free aa (aj aa aa aa (aI aa) .free aa (aj aa aa aa (aD (m:=_) dQ aa aa) .free aa (aj aa aa aa (ah isAgg146 aa aa) .free aa (aj aa aa aa (aI aa) .free aa (aj aa aa aa (aD (m:=_) ip aa aa) .free aa (aj aa aa aa (ah isAgg168 aa aa) .free aa ?_)))))))))))
 refine aj aa aa aa (ak aa) .free aa (aj aa aa aa (aI aa) .free aa (aj aa aa aa (aD (m:=_) dQ aa aa) .free aa (aj aa aa aa (ah isAgg146 aa aa) .free aa (aT aa aa (aP [2,7,2] (aH aa (au call91 aa) (BI B _ bh bs bt x h s hW) .free aa aa ?_))))))
 rintro av _ ⟨hav,rfl⟩
 refine cE fun qa ca hqa hqai=> ?_
 subst hqa
 refine ad (cN (aP [3] (aT aa aa (aw aa (au call90 aa) (nS B _ h.bd h.c hW.c (h.blk s) (.slice qb (h.blk s).rts.length cb) hbk aa s qa ca (h.words++(h.blk s).rts) hwb2 (by simp;omega) hqai (cP (1 - 1) aa)) .free aa aa ?_))))
 refine ad (cN (aT aa aa (aP [3] (aH aa (au call92 aa) (m6 B _ bt h.T (by have:=hW.tl;omega)) .free aa aa ?_))))
 rintro rv _ rfl
 refine aM (fun w hh=>uO hh) (cE fun qn cn hqn hqi=> ?_)
 subst hqn
 refine ad (cN (aj aa aa aa (bD aa runUnderlying166 ⟨_,rfl⟩ rfl) .free aa (aT aa aa (aw aa (au call93 aa) (bI (q:=c6) (fun Fr=>wC _ Fr bl h.S.L)) .free aa aa ?_))))
 refine ad (cN (aP [8] (aT aa aa (aw aa (au call80 aa) (xt B _ bs bl h.S h.o o1 o2) .free aa aa ?_))))
 refine ad (cN (aS aa aa aa (aQ aa (mm _ _ _ _ _ aa aa aa aa aa)) .free aa (aT aa aa (kPs (ax (vs:=_) sizeOf106 aa aa aa aa aa) aa (ad (c7 aa (cy (am [2] rfl (az ?_)))))))))
 exact qh results50 (.cellA aa isAgg106 sizeOf106 aa aa) (fun w hw=>⟨by simp[HpS.stats,bZ];rfl,et (bs:=bs) (bt:=bt) (x:=x) ((hM _ _ ((hw.dp [1,3,4,4,4]).pk [0,3,3,2,0,1])).front 1 aa)⟩)
end Go.Proofs.YtoakdoeajpjgkaaGreatDoor
