/- Part of a law's texts. Conditions: none. -/
import Derived.Test.YtoakdoeajpjgkaaGreatDoorQL18Ml
import Derived.ProofKit
import Derived.OpenShut
import Derived.ChangeOld
import Derived.Below
import Derived.ChangeSlices
import Derived.Deep.Grids
import Derived.Deep.Strs
open Go.Proofs.Tryz
set_option linter.all false
namespace Go.Proofs.YtoakdoeajpjgkaaGreatDoor
open Go
def hs2:List (Int×Int):=[(0,1),(0,2)]
theorem hh2:∀ h∈[((0:Int),(1:Int)),(0,2)],(0≤h.1∧h.1<256)∧(0≤h.2∧h.2<256):=fun h hm=>by
 simp only[List.mem_cons,List.not_mem_nil,or_false] at hm
 rcases hm with rfl | rfl<;>exact⟨by decide,by decide⟩
theorem Cu{B:World}{H:List HP}{b:Nat}{x y z u:Value}{T1:TypeId}{U:List Value→List HP}[fC H b [x,y,z,u] T1 U]{cap:Nat}:SlN B H (.slice (some ⟨b,0,none⟩) 2 cap) 2 [[x,y],[z,u]]:=
 SlN.row (cs:=[[x,y],[z,u]]) fun i c h=>by
  cases i with
  | zero=>
    cases h
    refine⟨rfl,fun j hj=> ?_⟩
    rcases j with _ | _ | j
    ·rfl
    ·rfl
    ·omega
  | succ i=>
    cases i with
    | zero=>
      cases h
      refine⟨rfl,fun j hj=> ?_⟩
      rcases j with _ | _ | j
      ·rfl
      ·rfl
      ·omega
    | succ i=>cases h
theorem vX{α:Type}{B:World}{σ:Env}{H:List HP}{P:Program}{m:Nat}{enc:α→List Value}(he:me m enc){d:Option Tmp}{ty:TypeId}{p:String}{af:Array Edge}{g:Option (Nat×Bool)}{t e:TypeId}{x y:Operand}{v u:α}{xv yv z:Value}(ht:∀ w,(underlying t).run P w= .ok (.slice e) w)(hs:∀ w,(sizeOf e).run P w= .ok m w)(hz:∀ w,(zeroValue e).run P w= .ok z w)(hm0:(0<m∧m≤1000)∧z.cells.size=m)(hx:evO σ x=some xv)(hv:xv.cells=(enc v).toArray)(hy:evO σ y=some yv)(hu:yv.cells=(enc u).toArray):
 Chg P B σ H ⟨d,.buildSlice t 2 #[(0,x),(1,y)],ty,p,af,g⟩ (fun r H'=>∃ b,r= .slice (some ⟨b,0,none⟩) 2 2∧H'=row b (enc v++enc u) e::H):=by
 intro a w kn hh
 refine⟨.value (.slice (some ⟨w.heap.size,0,none⟩) 2 2),{w with heap:=w.heap.push (.cells (enc v++enc u).toArray e)},?_,_,.inl aa,_,⟨_,rfl,rfl⟩,by simpa [row] using hh.new _⟩
 have h1:m≠0:=by omega
 have h2:¬ 16777216<2*m:=by omega
 have hl:(enc v).length=m:=he.len v
 have hl2:(enc u).length=m:=he.len u
 have key:∀ (k:Nat) (vs:List Value) (a:Array Value) (j:Nat),k+vs.length≤a.size→(List.foldl (fun (cs:Array Value) (x:Value×Nat)=>cs.setIfInBounds (k+x.2) x.1) a vs.zipIdx)[j]? =if k≤j∧j<k+vs.length then vs[j - k]? else a[j]? :=by
  intro k vs a j h
  have:=kv vs k a h j
  rw[←this]
  congr 1
  have hz:vs.zipIdx k=vs.zipIdx.map fun x=>(x.1,k+x.2):=by
   apply List.ext_getElem?
   intro i
   simp[List.getElem?_zipIdx]
   cases vs[i]?<;>simp
  rw[hz,List.foldl_map]
 have hsz:∀ (g:Nat→Nat) (l:List (Value×Nat)) (a:Array Value),(List.foldl (fun (cs:Array Value) (x:Value×Nat)=>cs.setIfInBounds (g x.2) x.1) a l).size=a.size:=by
  intro g l
  induction l with
  | nil=>intro a;rfl
  | cons x l ih=>intro a;rw[List.foldl_cons,ih];simp
 simp[execOp,Instr.buildSlice,ht,hs,Instr.fill,cR,hz,kn.eval hx,hv,kn.eval hy,hu,h1,h2,hl,hl2]
 generalize hA:Array.map (fun x=>z.cells[x%z.cells.size]!) (Array.range (2*m))=A
 have hAs:A.size=2*m:=by rw[←hA];simp
 rw[if_neg (by omega),if_neg (by omega),if_neg (by rw[hsz (fun x=>x) _ A];omega)]
 generalize hF:List.foldl (fun (cs:Array Value) (x:Value×Nat)=>cs.setIfInBounds x.snd x.fst) A (enc v).zipIdx=F
 have hFs:F.size=2*m:=by rw[←hF,hsz (fun x=>x) _ A];exact hAs
 have hF2:∀ j,F[j]? =if j<m then (enc v)[j]? else A[j]? :=fun j=>by
  have:=kv (enc v) 0 A (by omega) j
  rw[←hF,this]
  simp[hl]
 have e9:List.foldl (fun (cs:Array Value) (x:Value×Nat)=>cs.setIfInBounds (m+x.snd) x.fst) F (enc u).zipIdx=(enc v++enc u).toArray:=by
  apply Array.ext_getElem?
  intro j
  rw[key m (enc u) F j (by omega),hF2,show(enc v++enc u).toArray[j]? =(enc v++enc u)[j]? by simp,List.getElem?_append,hl,hl2]
  by_cases h3:j<m
  ·rw[if_neg (by omega),if_pos h3,if_pos h3]
  ·rw[if_neg h3]
   by_cases h4:j<m+m
   ·rw[if_pos (by omega),if_neg h3]
   ·rw[if_neg (by omega),if_neg h3,List.getElem?_eq_none (by omega),Array.getElem?_eq_none (by omega)]
 simp only[e9]
 rfl
theorem zo(pa:Nat):okB ((iz pa [] 136).format c48) (fun _ s=>okB (gE c48 [(0,1),(0,2)] s []) fun out sF=>out==[40,42]&&iv (sF.block c48) ⟨0,5,[0]⟩ 0&&okB (ei c48 ⟨0,5,[0]⟩ (de [] [40,42] 0) [40,42] 0 sF) fun n1 s1=>n1==some 0&&okB (fk c48 (de [] [40,42] 0) 1 0 0 s1) fun _ s2=>iv (s2.block c48) ⟨0,5,[0]⟩ 0&&s2.reachSize c48 ⟨0,5,[0]⟩ []==0&&s2.reachSize c48 ⟨0,5,[0]⟩ [42]==3)=true:=by kernel_rfl
theorem zn(pa bd:Nat):okB ((iz pa [] 136).format c48) (fun _ s=>okB (gE c48 [(0,1)] s []) fun out sF=>out==[40]&&iv (sF.block c48) ⟨0,2,[0]⟩ 0&&okB (ei c48 ⟨0,2,[0]⟩ (de [] [40] 0) [40] 0 sF) fun n1 s1=>n1==some 0&&okB (fk c48 (de [] [40] 0) 1 0 0 s1) fun _ s2=>iv (s2.block c48) ⟨0,2,[0]⟩ 0&&okB ((dY bd c48 ⟨0,2,[0]⟩ [0]).step s2) fun r s3=> !r.1&&okB (r.2.step s3) fun r2 _=>r2.1&&iv (r2.2.block,0) ⟨1,0,[0]⟩ 0)=true:=by kernel_rfl
def A5(o:Option bB)(w v:Int):Bool:=match o with
 | some X=>(bI X.went w).getD 0==v
 | none=>false
theorem zm(pa bd:Nat):okB ((iz pa [] 136).format c48) (fun _ s=>okB (gE c48 [(0,1),(0,2)] s []) fun out sF=>out==[40,42]&&iv (sF.block c48) ⟨0,5,[0]⟩ 0&&okB (ei c48 ⟨0,5,[0]⟩ (de [] [40,42] 0) [40,42] 0 sF) fun n1 s1=>n1==some 0&&okB (fk c48 (de [] [40,42] 0) 1 0 0 s1) fun _ s2=>iv (s2.block c48) ⟨0,5,[0]⟩ 0&&(bP bd c48 s2).n==0&&okB (eB bd c48 ⟨bP bd c48 s2,0,0,[],[]⟩ s2 [42]) fun r s3=>r.2.1==0&&A5 r.1 42 88&&iv (s3.block c48) ⟨1,3,[0]⟩ 0)=true:=by kernel_rfl
theorem uF(B:World)(Fr:List HP):
 ∀ w,Holds B Fr w→Calls Tryz.prog 201 [].toArray w (aZ B Fr (.bool true)):=by
 refine ap func201 aa ntmps201 aa (ac (ab (kPa aa aa (ad (ac (ac (ab (ax aa (ar call216 aa) (uG _ _) .free aa aa ?_))))))))
 refine kPv (bu aa) aa (ad (bE aa (rfl) (aq (ac (ab (kPv (aP aa (da _ _ _ aa aa aa)) aa (kPb (aE zeroValue134 aa) aa fun b1=>(kPs (ay (vs:=_) sizeOf134 aa aa aa aa aa) aa (ad (ac (ab ?_)))))))))))
 refine kPv (ah isAgg134 sizeOf134 aa aa) aa ?_
 refine aI aa (ar call74 aa) (dO _ _ ⟨3,1,8⟩ fQ none 0 [] (by decide) (fun _ h=>absurd h (Nat.not_lt_zero _)) SlR.nil) .free aa aa ?_
 rintro _ _ ⟨bd,pa,N,s0,hN,hf,rfl,rfl⟩
 obtain rfl:N=56:=by have:(N:Int)=56:=hN.trans (by decide);omega
 have hfm:=og fQ hN hf
 have hu0:=gX (j5 pa 56) fQ hf
 have hev:=bR (zp pa) hf
 simp only[Bool.and_eq_true,beq_iff_eq] at hev
 refine kPm aa aa (kPv (aA aa aa) aa (kPv (aA aa aa) aa (kPa aa aa (kPa aa aa (ad (ao [3,2,1,0] rfl (ac (ac (ab (kPm aa aa (kPv (bu aa) aa ?_)))))))))))
 refine kPm aa aa (aj aa (ak aa) (.on aa aa (ae aa)) aa aa (aj aa (ah isAgg134 sizeOf134 aa aa) (.on aa aa (ae aa)) aa aa ?_))
 refine ax aa (ar call130 aa) (bF (q:=az) (fun Fr=>kw _ Fr _ s0 ⟨3,1,8⟩ fQ hu0)) (.on aa aa (ae aa)) aa aa ?_
 refine aj aa (am aa aa aa) (.on aa aa (ae aa)) aa aa (kPv (aD aa aa aa) aa (ad (ao [19,2,1,0] rfl (bE aa (by rw[hev.1];rfl) (aq (ac (ab (kPm aa aa (kPv (ah isAgg134 sizeOf134 aa aa) aa ?_)))))))))
 refine ax aa (ar call171 aa) (lh _ _ ⟨3,1,8⟩ fQ 0 (by decide) (by decide)) .free aa aa ?_
 refine aI aa (ar call145 aa) (nR _ _ bd s0 34 5 hfm.lim hu0 (by decide)) .free aa aa ?_
 rintro _ _ ⟨x1,s1,hm1,rfl,hl1,hn1,hu1,rfl⟩
 have hev2:=bR hev.2 hm1
 simp only[beq_iff_eq] at hev2
 refine ad (ac (ab (kPm aa aa (kPv (ah isAgg134 sizeOf134 aa aa) aa ?_))))
 refine ax aa (ar call130 aa) (bF (q:=az) (fun Fr=>kw _ Fr _ s1 ⟨3,1,8⟩ fQ hu1)) .free aa aa ?_
 refine kPv (am aa aa aa) aa (kPa aa aa (ad (ao [0] rfl (aB ?_))))
 exact aw results201 aa (fun w hh=>⟨by rw[hev2];rfl,(hh.dp [0,0])⟩)
theorem uE(B:World)(Fr:List HP):
 ∀ w,Holds B Fr w→Calls Tryz.prog 165 [].toArray w (aZ B Fr (.bool true)):=by
 refine ap func165 aa ntmps165 aa (ac (ab (kPa aa aa (ad (ac (ac (ab (ax aa (ar call201 aa) (uF _ _) .free aa aa ?_))))))))
 refine kPv (bu aa) aa (ad (bE aa (rfl) (aq (ac (ab (kPv (aP aa (iS _ aa)) aa (kPv (aP aa (gN _ aa)) aa (kPv (aP aa (gN _ aa)) aa (kPb (vX oB (v:=(0,1)) (u:=(0,2)) runUnderlying190 sizeOf189 zeroValue189 ⟨⟨by decide,by decide⟩,rfl⟩ rfl aa aa aa) aa fun b11=>(aI aa (ar call114 aa) (ko _ _ 0 0 40 ⟨by decide,by decide,by decide⟩ ⟨3,1,48⟩ rW [(0,1),(0,2)] (hh2) (by decide) (some ⟨b11,0,none⟩) _ Cu none 0 [] SlR.nil (fun _ h=>(by cases h)) (by decide) (fun _ h=>absurd h (Nat.not_lt_zero _)) 0 (by decide)) .free aa aa ?_))))))))))
 rintro _ _ ⟨bd,pa,N,s0,sF,out,hfm,hN,⟨hus0,hf⟩,hfill,hor⟩
 obtain rfl:=n48 hN
 have hev:=bR (bR (zo pa) hf) hfill
 simp only[Bool.and_eq_true,beq_iff_eq] at hev
 obtain⟨⟨rfl,e1⟩,e2⟩:=hev
 rw[dU e1] at hor
 rcases hor with ⟨n1,n2,s1,s2,ov,sv,hl1,hl2,hu2,hlm2,hn2,hov,hsv,rfl,rfl⟩ | ⟨s1,hl1,_⟩
 rotate_left
 ·have e3:=bR e2 hl1
  simp only[Bool.and_eq_true,beq_iff_eq] at e3
  exact absurd e3.1 (by simp)
 have e3:=bR e2 hl1
 simp only[Bool.and_eq_true,beq_iff_eq] at e3
 obtain⟨e4,e5⟩:=e3
 obtain rfl:n1=0:=by injection e4
 have e6:=bR e5 hl2
 simp only[Bool.and_eq_true,beq_iff_eq] at e6
 obtain⟨⟨e7,e8⟩,e9⟩:=e6
 rw[dU e7]
 refine aU [2] (cx fun qo co hqo hqi=> ?_)
 subst hqo
 obtain⟨bO,oO,rfl⟩:=hqi 0 (by decide)
 refine kPm aa aa (kPv (aA aa aa) aa (kPv (aA aa aa) aa (kPv (aA aa aa) aa (kPv (aA aa aa) aa (kPb (aE zeroValue134 aa) aa fun b2=>(kPb (aE zeroValue151 aa) aa fun b3=>(kPa aa aa (kPs (ay (vs:=_) sizeOf134 aa aa aa aa aa) aa ?_))))))))
 refine kPs (ay (vs:=_) sizeOf151 aa aa aa (by first | rfl | exact eC (by assumption)) rfl) rfl ?_;refine kPa aa aa ?_;refine ad ?_;refine ao [4,1,3,2,0] rfl ?_;refine ac ?_;refine ac ?_;refine ab ?_;refine kPm aa aa ?_;refine kPv (du runUnderlying90 aa aa aa) aa ?_;refine kPm aa aa ?_;refine aj aa (ak aa) (.on aa aa (ae aa)) aa aa ?_
 refine aj aa (bH aa runUnderlying166 ⟨_,rfl⟩ rfl) (.on aa aa (ae aa)) aa aa (aj aa (am aa aa aa) (.on aa aa (ae aa)) aa aa (kPv (aD aa aa aa) aa (kPm aa aa (aj aa (ak aa) (.on aa aa (ae aa)) aa aa (aj aa (ah isAgg134 sizeOf134 aa aa) (.on aa aa (ae aa)) aa aa ?_)))))
 refine aj aa (ah isAgg151 sizeOf151 aa aa) (.on aa aa (ae aa)) aa aa ?_
 refine aI aa (ar call154 aa) (rh _ _ bd ⟨3,1,48⟩ ⟨0,5,[0]⟩ sv hsv (.slice none 0 0) aa) (.on aa aa (ae aa)) aa aa ?_
 rintro _ _ ⟨c1,c2,c3,c4,rfl,rfl⟩
 refine aj aa (mU runUnderlying224 ⟨_,_,_,rfl⟩ rfl aa aa) (.on aa aa (ae aa)) aa aa (kPv (aD aa aa aa) aa (ad (ao [30,4,1,3,2,0] rfl (bE aa (rfl) (aq (ac (aM (H':=az bd s2::dC 3 i64 0 (.slice (some ⟨bO,oO,none⟩) 2 co,[40,42])::row b3 [i64 0,i64 5,sv] 151::row b2 [i64 3,i64 1,i64 48] 134::cN 0 (sv,[0])::Fr) (fun w hh=>by have h:=((hh.dp [0,0,0,0,5]).pk [4,2]);exact h) (cM [0,1,2,3,4,5,6,7,8,9,10,11,12,13,14,15,16,17] [3,13,14] [6,7,8] [13] [row b2 [i64 3,i64 1,i64 48] 134,row b3 [i64 0,i64 5,sv] 151,dC 3 i64 0 (.slice (some ⟨bO,oO,none⟩) 2 co,[40,42])] Tryz.mixed (by kernel_rfl) ?_))))))))
 refine aV aa aa aa (ak aa) .free aa (aV aa aa aa (ah isAgg134 sizeOf134 aa aa) .free aa ?_)
 refine aV aa aa aa (ah isAgg151 sizeOf151 aa aa) .free aa ?_
 refine aR aa aa (ax aa (ar call90 aa) (m8 B _ bd ⟨3,1,48⟩ iu ⟨0,5,[0]⟩ sv ⟨⟨by decide,by decide⟩,⟨by decide,by decide⟩⟩ hsv s2 none 0 [] (fun _ h=>(by cases h)) (by decide) (fun _ h=>absurd h (Nat.not_lt_zero _)) SlR.nil) .free aa aa ?_)
 refine ad (cU aa (aV aa aa aa (am aa aa aa) .free aa (aV aa aa aa (ak aa) .free aa (an aa aa aa (ak aa) (.on aa aa (ae (by rw[e8];rfl))) aa (an aa aa aa (ah isAgg134 sizeOf134 aa aa) (.on aa aa (ae (by rw[e8];rfl))) aa ?_)))))
 refine an aa aa aa (ah isAgg151 sizeOf151 aa aa) (.on aa aa (ae (by rw[e8];rfl))) aa ?_
 refine aV aa aa aa (ak aa) (.on aa aa (ae (by rw[e8];rfl))) aa (aV aa aa aa (cA runUnderlying166 sizeOf3 aa aa (by decide) (by decide)) (.on aa aa (ae (by rw[e8];rfl))) aa (aV aa aa aa (cj (v:=i64 42) isAgg3 (cH 1 aa) aa aa) (.on aa aa (ae (by rw[e8];rfl))) aa (aV aa aa aa (c7 (c:=42) runUnderlying3 runUnderlying25 aa (by decide)) (.on aa aa (ae (by rw[e8];rfl))) aa (aR aa aa (cP aa (gk runUnderlying30 sizeOf25 zeroValue25 aa aa aa) (.on aa aa (ae (by rw[e8];rfl))) aa aa ?_)))))
 rintro _ _ ⟨b44,rfl,rfl⟩
 refine ad (cK (aU [1] (aR aa aa (ax aa (ar call90 aa) (m8 B _ bd ⟨3,1,48⟩ iu ⟨0,5,[0]⟩ sv ⟨⟨by decide,by decide⟩,⟨by decide,by decide⟩⟩ hsv s2 (some ⟨b44,0,none⟩) 1 [42] (fun v h=>by rw[List.mem_singleton.1 h];decide) (by decide) (fun _ _=>⟨_,_,rfl⟩) (SlR.row (b:=b44) aa aa)) (.on aa aa (ae (by rw[e8];rfl))) aa aa ?_))))
 refine ad (cU aa (aV aa aa aa (am aa aa aa) (.on aa aa (ae (by rw[e8];rfl))) aa (aV aa aa aa (au aa (by rw[e8];rfl) aa) .free aa (aV aa aa aa (bA aa) .free aa (cC (ao [0] rfl (aB ?_)))))))
 exact aw results165 aa (fun w hh=>⟨by rw[e9];rfl,(hh.dp [0,0,0,0,0,0])⟩)
theorem uD(B:World)(Fr:List HP):
 ∀ w,Holds B Fr w→Calls Tryz.prog 113 [].toArray w (aZ B Fr (.bool true)):=by
 refine ap func113 aa ntmps113 aa (ac (ab (kPa aa aa (ad (ac (ac (ab (ax aa (ar call165 aa) (uE _ _) .free aa aa ?_))))))))
 refine kPv (bu aa) aa (ad (bE aa (rfl) (aq (ac (ab (kPv (aP aa (iS _ aa)) aa (kPv (aP aa (gN _ aa)) aa (kPb (oJ oB (v:=(0,1)) runUnderlying190 sizeOf189 zeroValue189 ⟨⟨by decide,by decide⟩,rfl⟩ rfl aa) aa fun b13=>(aI aa (ar call114 aa) (ko _ _ 0 0 40 ⟨by decide,by decide,by decide⟩ ⟨3,1,48⟩ rW [(0,1)] (hh1 ⟨by decide,by decide⟩ ⟨by decide,by decide⟩) (by decide) (some ⟨b13,0,none⟩) _ Bu none 0 [] SlR.nil (fun _ h=>(by cases h)) (by decide) (fun _ h=>absurd h (Nat.not_lt_zero _)) 0 (by decide)) .free aa aa ?_)))))))))
 rintro _ _ ⟨bd,pa,N,s0,sF,out,hfm,hN,⟨hus0,hf⟩,hfill,hor⟩
 obtain rfl:=n48 hN
 have hev:=bR (bR (zn pa bd) hf) hfill
 simp only[Bool.and_eq_true,beq_iff_eq] at hev
 obtain⟨⟨rfl,e1⟩,e2⟩:=hev
 rw[dU e1] at hor
 rcases hor with ⟨n1,n2,s1,s2,ov,sv,hl1,hl2,hu2,hlm2,hn2,hov,hsv,rfl,rfl⟩ | ⟨s1,hl1,_⟩
 rotate_left
 ·have e3:=bR e2 hl1
  simp only[Bool.and_eq_true,beq_iff_eq] at e3
  exact absurd e3.1 (by simp)
 have e3:=bR e2 hl1
 simp only[Bool.and_eq_true,beq_iff_eq] at e3
 obtain⟨e4,e5⟩:=e3
 obtain rfl:n1=0:=by injection e4
 have e6:=bR e5 hl2
 simp only[Bool.and_eq_true,beq_iff_eq] at e6
 obtain⟨e7,e8⟩:=e6
 rw[dU e7]
 refine aU [2] (cx fun qo co hqo hqi=> ?_)
 subst hqo
 obtain⟨bO,oO,rfl⟩:=hqi 0 (by decide)
 refine kPm aa aa (kPv (aA aa aa) aa (kPv (aA aa aa) aa (kPv (aA aa aa) aa (kPv (aA aa aa) aa (kPb (aE zeroValue134 aa) aa fun b2=>(kPb (aE zeroValue151 aa) aa fun b3=>(kPa aa aa (kPs (ay (vs:=_) sizeOf134 aa aa aa aa aa) aa ?_))))))))
 refine kPs (ay (vs:=_) sizeOf151 aa aa aa (by first | rfl | exact eC (by assumption)) rfl) rfl ?_;refine kPa aa aa ?_;refine ad ?_;refine ao [4,1,3,2,0] rfl ?_;refine ac ?_;refine ac ?_;refine ab ?_;refine kPm aa aa ?_;refine kPv (du runUnderlying90 aa aa aa) aa ?_;refine kPm aa aa ?_;refine aj aa (ak aa) (.on aa aa (ae aa)) aa aa ?_
 refine aj aa (bH aa runUnderlying166 ⟨_,rfl⟩ rfl) (.on aa aa (ae aa)) aa aa (aj aa (am aa aa aa) (.on aa aa (ae aa)) aa aa (kPv (aD aa aa aa) aa (ad (ao [25,1,3,2,0] rfl (bE aa (rfl) (aq (ac (ab (kPm aa aa (kPv (ah isAgg134 sizeOf134 aa aa) aa ?_))))))))))
 refine kPv (ah isAgg151 sizeOf151 aa aa) aa ?_
 refine kPb (gk runUnderlying30 sizeOf25 zeroValue25 aa aa aa) aa fun b29=>(aU [4] (aI aa (ar call133 aa) (q5 B _ bd ⟨3,1,48⟩ iu ⟨0,2,[0]⟩ ⟨⟨by decide,by decide⟩,⟨by decide,by decide⟩⟩ sv hsv (some ⟨b29,0,none⟩) 1 [0] (by decide) (fun h=>by cases h) (SlR.row (b:=b29) aa aa)) .free aa aa ?_))
 rintro _ _ ⟨x,rfl,rfl⟩
 have hX0:eT (dY bd ⟨3,1,48⟩ ⟨0,2,[0]⟩ [0]):=lj iu ⟨⟨by decide,by decide⟩,⟨by decide,by decide⟩⟩ (by decide) (fun v h=>by rw[List.mem_singleton.1 h];decide) (fun v h=>by rw[List.mem_singleton.1 h];decide)
 refine kPa aa aa (ad (ao [5,0] rfl (ac (ac (ab (kPm aa aa (kPv (du runUnderlying147 aa aa aa) aa (ad (bE aa (rfl) (aq (ac ?_)))))))))))
 refine ab (kPm aa aa (aU [0,4] ?_))
 refine aS aa (ar call166 aa) (oF B _ x (dY bd ⟨3,1,48⟩ ⟨0,2,[0]⟩ [0]) hX0 s2 hu2) .free aa aa ?_ ?_
 rotate_left
 ·rintro _ _ ⟨s9,hm9,_⟩
  exact(jd e8 hm9).elim
 rintro _ _ ⟨r1,s3,hm1,rfl,rfl⟩
 have e9:=bR e8 hm1
 simp only[Bool.and_eq_true,Bool.not_eq_true'] at e9
 obtain⟨e10,e11⟩:=e9
 obtain⟨hX1,hu3,_,hbd1,_⟩:=qi hX0 hu2 hm1
 refine aM (H':=eI x r1.2::az r1.2.bd s3::_) (fun w hh=>by rw[hbd1];exact hh) (kPm aa aa ?_)
 refine aS aa (ar call166 aa) (oF B _ x r1.2 hX1 s3 hu3) .free aa aa ?_ ?_
 rotate_left
 ·rintro _ _ ⟨s9,hm9,_⟩
  exact(jd e11 hm9).elim
 rintro _ _ ⟨r2,s4,hm2,rfl,rfl⟩
 have e12:=bR e11 hm2
 simp only[Bool.and_eq_true] at e12
 obtain⟨hX2,hu4,_⟩:=qi hX1 hu3 hm2
 have hbl:r2.2.block=⟨1,0,[0]⟩:=congrArg Prod.fst (dU e12.2)
 rw[e10,e12.1]
 refine kPa aa aa (kPa aa aa (ad (ac (ab (kPm aa aa (kPv (bu aa) aa (kPm aa aa (aj aa (ak aa) (.on aa aa (ae aa)) aa aa (kPv (au aa aa aa) aa (kPm aa aa (aj aa (ak aa) (.on aa aa (ae aa)) aa aa ?_)))))))))))
 refine aI aa (ar call167 aa) (l3 B _ x r2.2 hX2) (.on aa aa (ae aa)) aa aa ?_
 rintro _ _ ⟨bv5,hbv5,rfl,rfl⟩
 rw[hbl]
 refine aj aa (gM runUnderlying151 (t:=3) (off:=1) aa isAgg3 aa aa) (.on aa aa (ae aa)) aa aa (aj aa (am aa aa aa) (.on aa aa (ae aa)) aa aa (kPv (au aa aa aa) aa (kPm aa aa (aj aa (ak aa) (.on aa aa (ae aa)) aa aa (aU [1] (aI aa (ar call167 aa) (l3 B _ x r2.2 hX2) (.on aa aa (ae aa)) aa aa ?_))))))
 rintro _ _ ⟨bv6,hbv6,rfl,rfl⟩
 rw[hbl]
 refine aj aa (gM runUnderlying151 (t:=3) (off:=0) aa isAgg3 aa aa) (.on aa aa (ae aa)) aa aa (aj aa (am aa aa aa) (.on aa aa (ae aa)) aa aa (kPv (au aa aa aa) aa (kPa aa aa (ad (ao [0] rfl (aB ?_))))))
 exact aw results113 aa (fun w hh=>⟨rfl,(hh.dp [0,0,0,0,0,0,0,0,0])⟩)
theorem uC(B:World)(Fr:List HP):
 ∀ w,Holds B Fr w→Calls Tryz.prog 70 [].toArray w (aZ B Fr (.bool true)):=by
 refine ap func70 aa ntmps70 aa (ac (ab (kPa aa aa (ad (ac (ac (ab (ax aa (ar call113 aa) (uD _ _) .free aa aa ?_))))))))
 refine kPv (bu aa) aa (ad (bE aa (rfl) (aq (ac (ab (kPv (aP aa (iS _ aa)) aa (kPv (aP aa (gN _ aa)) aa (kPv (aP aa (gN _ aa)) aa (kPb (vX oB (v:=(0,1)) (u:=(0,2)) runUnderlying190 sizeOf189 zeroValue189 ⟨⟨by decide,by decide⟩,rfl⟩ rfl aa aa aa) aa fun b16=>(aI aa (ar call114 aa) (ko _ _ 0 0 40 ⟨by decide,by decide,by decide⟩ ⟨3,1,48⟩ rW [(0,1),(0,2)] (hh2) (by decide) (some ⟨b16,0,none⟩) _ Cu none 0 [] SlR.nil (fun _ h=>(by cases h)) (by decide) (fun _ h=>absurd h (Nat.not_lt_zero _)) 0 (by decide)) .free aa aa ?_))))))))))
 rintro _ _ ⟨bd,pa,N,s0,sF,out,hfm,hN,⟨hus0,hf⟩,hfill,hor⟩
 obtain rfl:=n48 hN
 have hev:=bR (bR (zm pa bd) hf) hfill
 simp only[Bool.and_eq_true,beq_iff_eq] at hev
 obtain⟨⟨rfl,e1⟩,e2⟩:=hev
 rw[dU e1] at hor
 rcases hor with ⟨n1,n2,s1,s2,ov,sv,hl1,hl2,hu2,hlm2,hn2,hov,hsv,rfl,rfl⟩ | ⟨s1,hl1,_⟩
 rotate_left
 ·have e3:=bR e2 hl1
  simp only[Bool.and_eq_true,beq_iff_eq] at e3
  exact absurd e3.1 (by simp)
 have e3:=bR e2 hl1
 simp only[Bool.and_eq_true,beq_iff_eq] at e3
 obtain⟨e4,e5⟩:=e3
 obtain rfl:n1=0:=by injection e4
 have e6:=bR e5 hl2
 simp only[Bool.and_eq_true,beq_iff_eq] at e6
 obtain⟨⟨e7,e14⟩,e8⟩:=e6
 rw[dU e7]
 refine aU [2] (cx fun qo co hqo hqi=> ?_)
 subst hqo
 obtain⟨bO,oO,rfl⟩:=hqi 0 (by decide)
 refine kPm aa aa (kPv (aA aa aa) aa (kPv (aA aa aa) aa (kPv (aA aa aa) aa (kPv (aA aa aa) aa (kPb (aE zeroValue134 aa) aa fun b2=>(kPb (aE zeroValue151 aa) aa fun b3=>(kPa aa aa (kPs (ay (vs:=_) sizeOf134 aa aa aa aa aa) aa ?_))))))))
 refine kPs (ay (vs:=_) sizeOf151 aa aa aa (by first | rfl | exact eC (by assumption)) rfl) rfl ?_;refine kPa aa aa ?_;refine ad ?_;refine ao [4,1,3,2,0] rfl ?_;refine ac ?_;refine ac ?_;refine ab ?_;refine kPm aa aa ?_;refine kPv (du runUnderlying90 aa aa aa) aa ?_;refine kPm aa aa ?_;refine aj aa (ak aa) (.on aa aa (ae aa)) aa aa ?_
 refine aj aa (bH aa runUnderlying166 ⟨_,rfl⟩ rfl) (.on aa aa (ae aa)) aa aa (aj aa (am aa aa aa) (.on aa aa (ae aa)) aa aa (kPv (aD aa aa aa) aa (kPm aa aa (aj aa (aF (m:=_) dz aa aa) (.on aa aa (ae aa)) aa aa (aj aa (ai isAgg3 aa aa) (.on aa aa (ae aa)) aa aa (aj aa (am aa aa aa) (.on aa aa (ae aa)) aa aa (kPv (aD aa aa aa) aa (ad (ao [33,4,1,2,0] rfl (bE aa (rfl) (aq ?_)))))))))))
 refine ac (ab (kPm aa aa (kPv (ah isAgg134 sizeOf134 aa aa) aa ?_)))
 refine aU [4] (aI aa (ar call115 aa) (qk _ _ bd s2 ⟨3,1,48⟩ iu) .free aa aa ?_)
 rintro _ _ ⟨bs,rfl,rfl⟩
 refine kPa aa aa (ad (ac (ac (ab (kr fun bl o1 o2=>(kPm aa aa (kPv (du runUnderlying146 aa aa aa) aa (kPm aa aa (aj aa (ak aa) (.on aa aa (ae aa)) aa aa (aj aa (aJ aa) (.on aa aa (ae aa)) aa aa (aj aa (aF (m:=_) hG aa aa) (.on aa aa (ae aa)) aa aa ?_)))))))))))
 refine aj aa (ai isAgg168 aa aa) (.on aa aa (ae aa)) aa aa (aj aa (du runUnderlying168 aa aa aa) (.on aa aa (ae aa)) aa aa (kPv (aD aa aa aa) aa (ad (ao [45,5,4,1,2,0] rfl (bE aa (rfl) (aq (ac (aM (fun w hh=>dL (S:=(⟨bP bd ⟨3,1,48⟩ s2,0,0,[],[]⟩:bz)) hh) (aM (H':=fa bs (⟨bP bd ⟨3,1,48⟩ s2,0,0,[],[]⟩:bz)::az bd s2::row b2 [i64 3,i64 1,i64 48] 134::dC 3 i64 0 (.slice (some ⟨bO,oO,none⟩) 2 co,[40,42])::cN 0 (sv,[0])::Fr) (fun w hh=>by have h:=(hh.dp [2,5]);exact h) (cM [0,1,2,3,4,5,6,7,8,9,10,11,12,13] [7,8] [0,1,2] [7] [row b2 [i64 3,i64 1,i64 48] 134,dC 3 i64 0 (.slice (some ⟨bO,oO,none⟩) 2 co,[40,42])] Tryz.mixed (by kernel_rfl) ?_))))))))))
 refine an aa aa aa (ak aa) .free aa (an aa aa aa (ah isAgg134 sizeOf134 aa aa) .free aa ?_)
 refine an aa aa aa (ak aa) .free aa (aV aa aa aa (ak aa) .free aa (aV aa aa aa (cA runUnderlying166 sizeOf3 aa aa (by decide) (by decide)) .free aa (aV aa aa aa (cj (v:=i64 42) isAgg3 (cH 3 aa) aa aa) .free aa (aV aa aa aa (c7 (c:=42) runUnderlying3 runUnderlying25 aa (by decide)) .free aa (aR aa aa (kPb (gk runUnderlying30 sizeOf25 zeroValue25 aa aa aa) aa fun b54=>(ad (cK (aR aa aa (aU [1,1] ?_))))))))))
 refine aS aa (ar call116 aa) (sN B _ bs bd (⟨bP bd ⟨3,1,48⟩ s2,0,0,[],[]⟩:bz) ⟨3,1,48⟩ iu s2 hu2 ⟨il iu,by rw[hn2];decide,rfl,rfl⟩ (some ⟨b54,0,none⟩) 1 [42] (by decide) (fun v h=>by rw[List.mem_singleton.1 h];decide) (SlR.row (b:=b54) aa aa)) .free aa aa ?_ ?_
 rotate_left
 ·rintro _ _ ⟨s9,hm9,_⟩
  exact(jd e8 hm9).elim
 rintro _ _ ⟨r,s3,hm3,hor⟩
 have e9:=bR e8 hm3
 simp only[Bool.and_eq_true,beq_iff_eq] at e9
 obtain⟨⟨e10,e11⟩,e12⟩:=e9
 rcases hor with ⟨h1,_⟩ | ⟨x,X,hX,h0,rfl,rfl⟩
 ·rw[h1] at e11;cases e11
 rw[hX] at e11
 have e13:(bI X.went 42).getD 0=88:=by simpa [A5] using e11
 have hu3:=(xb iu (fun v h=>by rw[List.mem_singleton.1 h];decide) (il iu) hu2 (by rw[hn2];decide) e14 hm3).1
 refine ad (cU aa (aV aa aa aa (ak aa) .free aa (aV aa aa aa (aA aa aa) .free aa (aV aa aa aa (aA aa aa) .free aa (aV aa aa aa (bA aa) .free aa (aV aa aa aa (bA aa) .free aa (cC (ao [7,6,4,1,2,0] rfl (ac (ab (kPm aa aa ?_)))))))))))
 refine kPv (ah isAgg134 sizeOf134 aa aa) aa ?_
 refine aU [2] (aI aa (ar call117 aa) (fI _ _ _ _ ⟨3,1,48⟩ iu hu3) .free aa aa ?_)
 rintro _ _ ⟨sv3,hsv3,rfl,rfl⟩
 rw[dU e12]
 refine kPm aa aa (kPv (aA aa aa) aa (kPv (aA aa aa) aa (kPb (aE zeroValue151 aa) aa fun b8=> ?_)))
 refine kPs (ay (vs:=_) sizeOf151 aa aa aa (by first | rfl | exact eC (by assumption)) rfl) rfl ?_;refine kPa aa aa ?_;refine ad ?_;refine ao [9,8,7,6,4,2,0] rfl ?_;refine ac ?_;refine cL Tryz.mixed (by kernel_rfl) (by kernel_rfl) ?_;refine kQm aa aa ?_;refine kQv (am aa aa aa) aa ?_
 refine kQm aa aa (bf aa (ak aa) (.on aa aa (ae aa)) aa (bf aa (du runUnderlying147 aa aa aa) (.on aa aa (ae aa)) aa (kQv (au aa aa aa) aa (kQm aa aa (bf aa (ak aa) (.on aa aa (ae aa)) aa (bf aa (am aa aa aa) (.on aa aa (ae aa)) aa (kQv (au aa aa aa) aa (kQm aa aa (bf aa (aF (m:=_) hJ aa aa) (.on aa aa (ae aa)) aa (bf aa (ai isAgg3 aa aa) (.on aa aa (ae aa)) aa (bf aa (am aa aa aa) (.on aa aa (ae aa)) aa ?_)))))))))))
 refine kQv (au aa aa aa) aa (kQm aa aa (bf aa (aF (m:=_) dz aa aa) (.on aa aa (ae aa)) aa (bf aa (ai isAgg3 aa aa) (.on aa aa (ae aa)) aa (bf aa (am aa aa aa) (.on aa aa (ae aa)) aa (kQv (au aa aa aa) aa (kQm aa aa (bf aa (ak aa) (.on aa aa (ae aa)) aa (bf aa (ak aa) (.on aa aa (ae aa)) aa (bf aa (cA runUnderlying166 sizeOf3 aa aa (by decide) (by decide)) (.on aa aa (ae aa)) aa (bf aa (cj (v:=i64 42) isAgg3 (cH 7 aa) aa aa) (.on aa aa (ae aa)) aa (bf aa (c7 (c:=42) runUnderlying3 runUnderlying25 aa (by decide)) (.on aa aa (ae aa)) aa ?_)))))))))))
 refine bC aa (ar call118 aa) (bF (q:=eI) (fun Fr=>sT B Fr x X 42)) (.on aa aa (ae aa)) aa ?_
 refine bf aa (ah isAgg134 sizeOf134 aa aa) (.on aa aa (ae aa)) aa ?_
 refine bC aa (ar call119 aa) (jk _ _ ⟨3,1,48⟩ iu 1 (by decide) (by decide)) (.on aa aa (ae aa)) aa ?_
 refine bf aa (am aa aa aa) (.on aa aa (ae aa)) aa (kQv (au aa aa aa) aa (kQa aa aa (bU (ao [0] rfl (aB ?_)))))
 exact aw results70 aa (fun w hh=>⟨by rw[e13];rfl,(hh.dp [0,0,0,0,0,0,0,0,0])⟩)
theorem Tryz.ownKnobs:ownKnob Tryz.prog.godebug=none:=by kernel_rfl
theorem Tryz.laidOut:laidOutB Tryz.prog=true:=by kernel_rfl
theorem BO{P:Program}{f:FuncId}{vs:Array Value}{W:World}(h:∀ w,Holds W [old W] w→Calls P f vs w (aZ W [old W] (.bool true))):
 Calls P f vs W (fun e w'=>e= .returned (.bool true)∧RowKit.Below W.heap.size W w'):=(h W (pK W)).mono fun _ _ ⟨h1,h2⟩=>⟨h1,h2.oldb⟩
theorem tx{B:World}{sv:Value}{xs:List Int}{Fr:List HP}{w:World}(h:Holds B (ii 0 (sv,xs)::Fr) w):Holds B (dC 3 i64 0 (sv,xs)::Fr) w:=by
 rcases ji h with ⟨rfl,rfl,h2⟩ | ⟨bd,rest,rfl,h2⟩
 ·exact eU h2
 ·exact gH aa aa h2
theorem uB(B:World)(Fr:List HP):
 ∀ w,Holds B Fr w→Calls Tryz.prog 43 [].toArray w (aZ B Fr (.bool true)):=by
 refine ap func43 aa ntmps43 aa (ac (ab (kPa aa aa (ad (ac (ac (ab (ax aa (ar call70 aa) (uC _ _) .free aa aa ?_))))))))
 refine kPv (bu aa) aa (ad (bE aa (rfl) (aq (ac (ab (aI aa (ar call71 aa) (vw _ _) .free aa aa ?_))))))
 rintro _ _ ⟨tb,rfl,rfl⟩
 refine kPa aa aa (ad (ac (ab (kPm aa aa (kPv (du runUnderlying130 aa aa aa) aa (kPm aa aa (aj aa (ak aa) (.on aa aa (ae aa)) aa aa (dM aa (ar call72 aa) (jU _ _ _ _ _ ⟨by decide,by decide⟩) (.on aa aa (ae aa)) aa aa ?_))))))))
 refine aj aa (am aa aa aa) (.on aa aa (ae aa)) aa aa (kPv (au aa aa aa) aa (kPm aa aa (aj aa (ak aa) (.on aa aa (ae aa)) aa aa (dM aa (ar call72 aa) (jU _ _ _ _ _ ⟨by decide,by decide⟩) (.on aa aa (ae aa)) aa aa ?_))))
 refine aj aa (am aa aa aa) (.on aa aa (ae aa)) aa aa (kPv (au aa aa aa) aa (kPm aa aa (aj aa (ak aa) (.on aa aa (ae aa)) aa aa (dM aa (ar call72 aa) (jU _ _ _ _ _ ⟨by decide,by decide⟩) (.on aa aa (ae aa)) aa aa ?_))))
 refine aj aa (am aa aa aa) (.on aa aa (ae aa)) aa aa (kPv (au aa aa aa) aa (kPm aa aa (aj aa (ak aa) (.on aa aa (ae aa)) aa aa (dM aa (ar call72 aa) (jU _ _ _ _ _ ⟨by decide,by decide⟩) (.on aa aa (ae aa)) aa aa ?_))))
 refine aj aa (am aa aa aa) (.on aa aa (ae aa)) aa aa (kPv (au aa aa aa) aa (kPa aa aa (ad (ao [0] rfl (aB ?_)))))
 exact aw results43 aa (fun w hh=>⟨rfl,(hh.dp [0])⟩)
structure HpS where
 bd:Nat
 c:Cfg
 S:bz
 o:Bool
 T:gm
 X:Option bB
def mG:Bool→Nat→bz→HP
 | true=>iB
 | false=>fa
def xu(x:Nat):Option bB→HP
 | none=>pr True
 | some X=>eI x X
def Db(x:Nat):Option bB→Value
 | none=> .pointer none
 | some _=>ptr x
abbrev cz(bh bs bt x:Nat)(h:HpS):HP:=row bh [ptr h.bd,i64 h.c.log,i64 h.c.roots,i64 h.c.space,ptr bs,ptr bt,Db x h.X] 149
def dB(bh:Nat)(h:HpS):HP:=hex fun (x:Nat×Nat×Nat)=>grp [cz bh x.1 x.2.1 x.2.2 h,mG h.o x.1 h.S,fR x.2.1 h.T,xu x.2.2 h.X]
section
variable {B:World} {n:Nat} {D:List Deferred} {σ:Env} {Fr:List HP} {K:Act→World→Prop} {bh bs bt x:Nat} {h:HpS} {w:World}
theorem iy(g:∀ bs bt x,GO B n D σ (cz bh bs bt x h::mG h.o bs h.S::fR bt h.T::xu x h.X::Fr) K):GO B n D σ (dB bh h::Fr) K:=fun a w st=>by
 obtain⟨x,hx⟩:=st.holds.hex
 exact g x.1 x.2.1 x.2.2 a w ⟨st.toStA,hx.grp⟩
theorem dW(hh:Holds B (cz bh bs bt x h::mG h.o bs h.S::fR bt h.T::xu x h.X::Fr) w):Holds B (dB bh h::Fr) w:=
 Holds.unhex (bs,bt,x) (Holds.ungrp (l:=[cz bh bs bt x h,mG h.o bs h.S,fR bt h.T,xu x h.X]) hh)
end
structure dV(h:HpS)(s:Dev):Prop where
 c:bj h.c
 k:zI h.S h.bd h.c s
 sw:h.o=true→kT h.S∧h.S.dirty.length≤1000000
 u:U64 s
 t1:0≤h.T.last∧h.T.last≤1000000000
 tl:h.T.at_.length≤800000
 tp:∀ p∈h.T.at_,0≤p.2∧p.2≤1000000
 x:∀ X,h.X=some X→eT X∧X.bd=h.bd∧X.c=h.c∧0<X.b.rts.length
abbrev HpS.blk(h:HpS)(s:Dev):Blk:=(s.block h.c).1
def HpS.obj(h:HpS)(s:Dev)(n:Int):cX×Int:=if (bI h.T.at_ n).isSome=true then s.objOf h.c (h.blk s) ((bI h.T.at_ n).getD 0) else ((0,0,0),6)
def HpS.words(h:HpS):List Int:=(bT (h.T.at_.map Prod.fst)).map fun n=>(bI h.T.at_ n).getD 0
theorem gi(B:World)(Fr:List HP)(bh bs bt x:Nat)(h:HpS)(s:Dev)(hc:bj h.c)(hu:U64 s):
 ∀ w,Holds B (cz bh bs bt x h::az h.bd s::Fr) w→Calls Tryz.prog 81 [ptr bh].toArray w (Ret B (fun rv H'=>∃ sv,aL sv=true∧rv=kR (h.blk s) sv∧H'=cN 0 (sv,(h.blk s).rts)::cz bh bs bt x h::az h.bd s::Fr) (fun _ _=>False)):=by
 refine ap func81 aa ntmps81 aa (ac (ab (kPb (aE zeroValue151 aa) aa fun b2=>(ad (ac ?_)))))
 refine ku (.br [0,1,2,3,4,5,6,7] 8 (.fin [9,10,11,12,13,14]) 12 (.fin [8,9,10,11,13,14])) [8,12,13] [0,1,2,3,4,5,6,7,9,10,11] [12,13] [cz bh bs bt x h] [] (G:=Nat×Value) (fun (b3,sv)=>[(3,ptr b3),(2,ptr b2)]) (fun (b3,sv)=>row b3 [i64 (h.blk s).act,i64 (h.blk s).used,sv] 151::cN 0 (sv,(h.blk s).rts)::cz bh bs bt x h::az h.bd s::row b2 [i64 0,i64 0,.slice none 0 0] 151::Fr) Tryz.mixed (by kernel_rfl) ?_ ?_
 ·skip
  refine wm (an aa aa aa (ak aa) .free aa (an aa aa aa (aJ aa) .free aa (an aa aa aa (aF (m:=_) hO aa aa) .free aa (an aa aa aa (ai isAgg90 aa aa) .free aa (an aa aa aa (ak aa) .free aa (an aa aa aa (aJ aa) .free aa (an aa aa aa (aF (m:=_) dS aa aa) .free aa (an aa aa aa (ah isAgg134 sizeOf134 aa aa) .free aa ?_))))))))
  refine cC ?_
  refine po aa aa ?_ ?_
  ·skip
   refine aU [2] (aI aa (ar call117 aa) (fI _ _ _ _ h.c hc hu) .free aa aa ?_)
   rintro _ _ ⟨sv14,hsv14,rfl,rfl⟩
   refine ad (rq aa (jw (an aa aa aa (ak aa) .free aa (an aa aa aa (aA aa aa) .free aa (an aa aa aa (aA aa aa) .free aa (aR aa aa (kPb (aE zeroValue151 aa) aa fun b3=>(ad (cK (aR aa aa ?_))))))))))
   refine kPs (ay (vs:=_) sizeOf151 aa aa aa (by first | rfl | exact eC (by assumption)) rfl) rfl ?_
   refine ad (cK (aV aa aa aa (bA aa) .free aa (cC ?_)))
   exact fun a w st_=>⟨(b3,sv14),st_.to ⟨rfl,rfl,trivial⟩ (fun hh=>(hh.pk [0,0,2]))⟩
  ·skip
   refine kPb (aE zeroValue151 aa) aa fun b3=>(ad (tF (jw (aR aa aa (aU [3] (aI aa (ar call117 aa) (fI _ _ _ _ h.c hc hu) .free aa aa ?_))))))
   rintro _ _ ⟨sv14,hsv14,rfl,rfl⟩
   refine ad (cU aa (an aa aa aa (ak aa) .free aa (an aa aa aa (aA aa aa) .free aa (an aa aa aa (aA aa aa) .free aa (aR aa aa ?_)))))
   refine kPs (ay (vs:=_) sizeOf151 aa aa aa (by first | rfl | exact eC (by assumption)) rfl) rfl ?_;refine ad ?_;refine cK ?_;refine aV aa aa aa (bA aa) .free aa ?_;refine cC ?_
   exact fun a w st_=>⟨(b3,sv14),st_.to ⟨rfl,rfl,trivial⟩ (fun hh=>(hh.pk [2,0,2]))⟩
 rintro⟨b3,sv⟩
 refine cB (σ':=[(3,ptr b3),(2,ptr b2)]) ⟨rfl,rfl,trivial⟩ (ac (aU [1] (cx fun qv cv hqv hqi=> ?_)))
 subst hqv
 refine ab (kPv (ah isAgg151 sizeOf151 aa aa) aa ?_)
 refine kPs (ay (vs:=_) sizeOf151 aa aa aa (by first | rfl | exact eC (by assumption)) rfl) rfl ?_;refine ad ?_;refine aB ?_
 exact pv results81 (.cellA aa isAgg151 sizeOf151 aa aa) (fun w hw=>⟨_,⟨.slice qv (h.blk s).rts.length cv,rfl,rfl,rfl⟩,(hw.dp [1,3])⟩)
theorem rY{α:Type}{k:Int}{v:α}:∀ {l:List (Int×α)},bI l k=some v→(k,v)∈l
 | [],h=>by cases h
 | q::l,h=>by
   unfold bI at h
   split at h
   ·rename_i e;cases h;rw[←e];exact List.mem_cons_self ..
   ·exact List.mem_cons_of_mem _ (rY h)
theorem dV.pb{h:HpS}{s:Dev}(hW:dV h s)(n:Int):0≤(bI h.T.at_ n).getD 0∧(bI h.T.at_ n).getD 0≤1000000:=by
 cases hm:bI h.T.at_ n with
 | none=>simp
 | some v=>exact hW.tp _ (rY hm)
theorem uc(B:World)(Fr:List HP)(bh bs bt x:Nat)(h:HpS)(s:Dev)(hW:dV h s)(n:Int):
 ∀ w,Holds B (cz bh bs bt x h::fR bt h.T::az h.bd s::Fr) w→Calls Tryz.prog 87 [ptr bh,i64 n].toArray w (aZ B (cz bh bs bt x h::fR bt h.T::az h.bd s::Fr) (.tuple #[gC (h.obj s n).1,i64 (h.obj s n).2])):=by
 refine ap func87 aa ntmps87 aa ?_
 have hc:=hW.c
 have hu:=hW.u
 have hbk:=dA (s:=s) hc hu
 have hbl:(h.blk s).rts.length≤16:=fy (s:=s) hc
 refine ac (ab (kPb (aE zeroValue160 aa) aa fun b4=>(kPa aa aa (ad (ac (ab (kPf iO isAgg130 aa aa aa aa (kPm aa aa (ax aa (ar call146 aa) (bF (q:=fR) (fun Fr=>pJ _ Fr bt h.T n)) .free aa aa ?_)))))))))
 refine kPm aa aa (kPv (aA aa aa) aa (kPv (aA aa aa) aa (kPa aa aa (kPa aa aa (ad (ao [7,6,5,4,0] rfl (ac (ac (ab (kPm aa aa (kPv (bu aa) aa ?_)))))))))))
 refine ad ?_
 refine ba aa (fun h18=> ?_) (fun h18=> ?_)
 ·have hk:¬ (bI h.T.at_ n).isSome=true:=by simpa using h18
  have hres:h.obj s n=((0,0,0),6):=by unfold HpS.obj;rw[if_neg hk]
  refine ac (ab (kPv (aP aa (q9)) aa (kPs (ay (vs:=_) sizeOf160 aa aa aa aa aa) aa (kPa aa aa (ad (aB ?_))))))
  exact fU results87 (.cellA aa isAgg160 sizeOf160 aa aa) (.tmp aa) (fun w hw=>⟨by rw[hres];rfl,(hw.dp [0])⟩)
 ·have hk:(bI h.T.at_ n).isSome=true:=by simpa using h18
  have hres:h.obj s n=s.objOf h.c (h.blk s) ((bI h.T.at_ n).getD 0):=by unfold HpS.obj;rw[if_pos hk]
  refine aq (ac (cM [0,1,2,3,4,5,6,7,8,10,9,11,12,13,14,15] [9,11,14] [0,1,2,3,4,5,6,7,10] [9] [cz bh bs bt x h] Tryz.mixed (by kernel_rfl) ?_))
  refine an aa aa aa (ak aa) .free aa (an aa aa aa (aJ aa) .free aa (an aa aa aa (aF (m:=_) hO aa aa) .free aa (an aa aa aa (ai isAgg90 aa aa) .free aa (an aa aa aa (ak aa) .free aa (an aa aa aa (aJ aa) .free aa (an aa aa aa (aF (m:=_) dS aa aa) .free aa (an aa aa aa (ah isAgg134 sizeOf134 aa aa) .free aa ?_)))))))
  refine aV aa aa aa (ak aa) .free aa (an aa aa aa (ak aa) .free aa (aR aa aa (aU [1,2] (aI aa (ar call81 aa) (gi B _ bh bs bt x h s hc hu) .free aa aa ?_))))
  rintro _ _ ⟨sv,hsv,rfl,rfl⟩
  refine ad (cK (aR aa aa (ax aa (ar call147 aa) (bF (q:=az) (fun Fr=>jJ _ Fr _ _ h.c hc (h.blk s) sv hbk hsv _ (by have:=hW.pb n;omega))) .free aa aa ?_)))
  refine ad (cU aa (aV aa aa aa (aA aa aa) .free aa (aV aa aa aa (aA aa aa) .free aa (aR aa aa (kPs (ay (vs:=_) sizeOf160 aa aa aa aa aa) aa (ad (cU aa (aV aa aa aa (bA aa) .free aa (cC (ao [5,4] rfl (aB ?_)))))))))))
  exact fU results87 (.cellA aa isAgg160 sizeOf160 aa aa) (.tmp aa) (fun w hw=>⟨by rw[hres];rfl,((hw.dp [0,2]).pk [0,1])⟩)
theorem pH(B:World)(Fr:List HP)(bh bs bt x:Nat)(h:HpS)(s:Dev)(hW:dV h s):
 ∀ w,Holds B (cz bh bs bt x h::fR bt h.T::Fr) w→Calls Tryz.prog 134 [ptr bh].toArray w (Ret B (fun rv H'=>aL rv=true∧H'=cN 0 (rv,h.words)::cz bh bs bt x h::fR bt h.T::Fr) (fun _ _=>False)):=by
 refine ap func134 aa ntmps134 aa ?_
 have hkl:(bT (h.T.at_.map Prod.fst)).length≤800000:=by have:=hW.tl;rw[bT,List.length_mergeSort,List.length_map];exact this
 refine ac (ab (kPa aa aa (ad (ac (ab (kPa aa aa (ad (ac (ac (aM (fun w hh=>eU (T:=25) (enc:=w64) hh) (ab ?_)))))))))))
 refine kPf iO isAgg130 aa aa aa aa (aU [2] (aI aa (ar call92 aa) (mt B _ bt h.T (by have:=hW.tl;omega)) .free aa aa ?_))
 rintro rv _ rfl
 refine aM (fun w hh=>tx hh) (cx fun qn cn hqn hqi=> ?_)
 subst hqn
 refine kPv (bH aa runUnderlying166 ⟨_,rfl⟩ rfl) aa (kPm aa aa (ad (aK (c6 (ι:=Nat×Value×List Int) [13,12,2,0] (fun (k,sv,ws)=>(k≤(bT (h.T.at_.map Prod.fst)).length)∧(aL sv=true)∧(ws=((bT (h.T.at_.map Prod.fst)).take k).map (fun n=>(bI h.T.at_ n).getD 0))∧(ws.length=k)) (fun (k,sv,ws)=>[(14,i64 k),(3,sv)]) (fun (k,sv,ws)=>dC 25 w64 0 (sv,ws)::dC 3 i64 0 (.slice qn (bT (h.T.at_.map Prod.fst)).length cn,(bT (h.T.at_.map Prod.fst)))::fR bt h.T::cz bh bs bt x h::Fr) (fun (k,sv,ws)=>(bT (h.T.at_.map Prod.fst)).length - k) (0,.slice none 0 0,[]) (⟨Nat.zero_le _,rfl,rfl,rfl⟩) (fun a w st=>st.to ⟨rfl,rfl,trivial⟩ (fun hh=>(hh.pk [2]))) ?_))))
 rintro⟨k,sv,ws⟩ ⟨hk0,hsv,hws,hwl⟩
 try simp only at hk0 hsv hws hwl ⊢
 refine cB (σ':=[(14,i64 k),(3,sv),(13,_),(12,_),(2,_),(0,_)]) (aC aa) (ac (ab (kPv (am aa aa aa) aa (ad (ac ?_)))))
 refine ba aa (fun h15=> ?_) (fun h15=> ?_)
 ·have hk:k<(bT (h.T.at_.map Prod.fst)).length:=by simpa using h15
  obtain⟨bN,oN,rfl⟩:=hqi k hk
  have hpb:=hW.pb (bT (h.T.at_.map Prod.fst))[k]
  refine aq (ac (aK (ac (ab (kPv (cA runUnderlying166 sizeOf3 aa aa (by omega) (by omega)) aa ?_)))))
  refine kPv (cj (v:=i64 (bT (h.T.at_.map Prod.fst))[k]) isAgg3 (cH 1 aa) aa (by rw[Int.toNat_natCast,List.getElem?_map,List.getElem?_eq_getElem hk];rfl)) aa ?_
  refine kPa aa aa (ad (ac (ab (kPf iO isAgg130 aa aa aa aa (kPm aa aa (ax aa (ar call146 aa) (bF (q:=fR) (fun Fr=>pJ _ Fr bt h.T (bT (h.T.at_.map Prod.fst))[k])) .free aa aa ?_))))))
  refine kPm aa aa (kPv (aA aa aa) aa (kPv (aA aa aa) aa (kPa aa aa (kPa aa aa (ad (ao [6,14,3,13,12,2,0] rfl (ab (kPm aa aa (kPm aa aa (kPv (c7 runUnderlying3 runUnderlying25 aa (fD (by omega))) aa (kPb (gk runUnderlying30 sizeOf25 zeroValue25 aa aa aa) aa fun b30=> ?_)))))))))))
  refine aU [1,0] (cP aa (eR aa aa runUnderlying30 runUnderlying30 ⟨_,rfl⟩ sizeOf25 zeroValue25 aa (fun _=>rfl) ik aa aa (by omega)) .free aa aa ?_)
  rintro sv9 _ ⟨hsv9,rfl⟩
  refine kPa aa aa (ad (ab (kPv (aN aa aa) aa (kPm aa aa (ad (ao [14,3,13,12,2,0] rfl ?_))))))
  exact fun a w st_=>⟨(k+1,sv9,ws++[(bI h.T.at_ (bT (h.T.at_.map Prod.fst))[k]).getD 0]),⟨by omega,hsv9,by rw[List.take_succ_eq_append_getElem hk,List.map_append, ←hws];rfl,by simp[hwl]⟩,by omega,st_.to (aC aa) (fun hh=>hh)⟩
 ·have h9:¬ k<(bT (h.T.at_.map Prod.fst)).length:=by simpa using h15
  have hk:k=(bT (h.T.at_.map Prod.fst)).length:=by omega
  have hres:ws=h.words:=by rw[hws,hk,List.take_length];rfl
  refine bD (ac (ab (kPm aa aa (kPa aa aa (ad (ao [2] rfl (aB ?_)))))))
  exact aw results134 aa (fun w hw=>⟨_,⟨hsv,rfl⟩,by rw[←hres];exact((hw.dp [1]).pk [0,1])⟩)
theorem Ap(B:World)(Fr:List HP)(bh bs bt x:Nat)(h:HpS)(s:Dev)(hW:dV h s):
 ∀ w,Holds B (cz bh bs bt x h::fR bt h.T::az h.bd s::Fr) w→Calls Tryz.prog 91 [ptr bh].toArray w (Ret B (fun rv H'=>aL rv=true∧H'=cN 0 (rv,h.words++(h.blk s).rts)::cz bh bs bt x h::fR bt h.T::az h.bd s::Fr) (fun _ _=>False)):=by
 refine ap func91 aa ntmps91 aa ?_
 have hc:=hW.c
 have hu:=hW.u
 have hbk:=dA (s:=s) hc hu
 have hbl:(h.blk s).rts.length≤16:=fy (s:=s) hc
 have hwl:h.words.length≤800000:=by have:=hW.tl;simp[HpS.words,bT];exact this
 refine ac (ab (kPa aa aa (ad (ac (ab (kPm aa aa (aI aa (ar call134 aa) (pH B _ bh bs bt x h s hW) .free aa aa ?_)))))))
 rintro wv _ ⟨hwv,rfl⟩
 refine kPm aa aa (aU [1,2] (aI aa (ar call81 aa) (gi B _ bh bs bt x h s hW.c hW.u) .free aa aa ?_))
 rintro _ _ ⟨sv,hsv,rfl,rfl⟩
 refine cx fun qb cb hqb hqbi=> ?_
 subst hqb
 refine kPv (gM runUnderlying151 (t:=30) (off:=2) aa isAgg30 aa aa) aa (aU [3] (cP aa (dT (yv:=(.slice qb (h.blk s).rts.length cb)) (ys:=(h.blk s).rts) aa aa runUnderlying30 runUnderlying30 ⟨_,rfl⟩ sizeOf25 zeroValue25 aa (fun _=>rfl) ik aa aa (cH (1 - 1) aa) (by omega)) .free aa aa ?_))
 rintro nv _ ⟨hnv,rfl⟩
 refine kPa aa aa (ad (ao [2] rfl (aB ?_)))
 exact aw results91 aa (fun w hw=>⟨_,⟨hnv,rfl⟩,((hw.dp [1]).pk [0,0,1])⟩)
section
variable {B:World} {Fr:List HP} {bh bs bt x:Nat} {h:HpS} {w:World}
theorem pN(ho:h.o=true)(hh:Holds B (cz bh bs bt x h::iB bs h.S::fR bt h.T::xu x h.X::Fr) w):Holds B (dB bh h::Fr) w:=dW (bs:=bs) (bt:=bt) (x:=x) (by rw[ho];exact hh)
theorem vx(ho:h.o=false)(hh:Holds B (cz bh bs bt x h::fa bs h.S::fR bt h.T::xu x h.X::Fr) w):Holds B (dB bh h::Fr) w:=dW (bs:=bs) (bt:=bt) (x:=x) (by rw[ho];exact hh)
end
theorem kh(B:World)(Fr:List HP)(bs:Nat)(S:bz)(o:Bool):∀ w,Holds B (mG o bs S::Fr) w→Calls Tryz.prog 80 [ptr bs].toArray w (aZ B (mG o bs S::Fr) (.bool o)):=by
 cases o
 ·exact lM B Fr bs S
 ·exact wt B Fr bs S
theorem HpS.obj_w{h:HpS}{s:Dev}(hW:dV h s){n:Int}(e:(h.obj s n).2=0):kU (h.obj s n).1:=by
 unfold HpS.obj at e ⊢
 split at e
 ·rename_i hm
  rw[if_pos hm]
  exact gI hW.c (dA hW.c hW.u) e
 ·cases e
def HpS.commit(h:HpS)(s:Dev):Out (Int×HpS):=if h.o=true then (h.S.commit s).then fun S s=> .ok (0,{h with o:=false,S:=S}) s else .ok (2,h) s
def HpS.alloc(h:HpS)(s:Dev)(w r:Int):Out ((Int×Int)×HpS):=if h.o=true then (cG fT h.c w r s h.S).then fun x s=>if x.1.2≠0 then .ok ((0,x.1.2),{h with S:=x.2}) s else .ok (((h.T.take x.1.1).1,0),{h with S:=x.2,T:=(h.T.take x.1.1).2}) s else .ok ((0,2),h) s
def HpS.write(h:HpS)(s:Dev)(n i v:Int):Out (Int×HpS):=if h.o=true then (if (h.obj s n).2≠0 then .ok ((h.obj s n).2,h) s else (iw fT (h.obj s n).1 i false v s h.S).then fun x s=> .ok (x.1,{h with S:=x.2}) s) else .ok (2,h) s
theorem ua(B:World)(Fr:List HP)(bh:Nat)(h:HpS)(s:Dev)(hW:dV h s):
 ∀ w,Holds B (dB bh h::az h.bd s::Fr) w→Calls Tryz.prog 79 [ptr bh].toArray w (aZ B (dB bh h::az h.bd s::Fr) (i64 (s.check h.c))):=by
 refine ap func79 aa ntmps79 aa (iy fun bs bt x=>(ac (ab (kPa aa aa (ad (ac (cL Tryz.mixed (by kernel_rfl) (by kernel_rfl) ?_)))))))
 refine kQm aa aa (kQv (aJ aa) aa (kQv (aF (m:=_) hO aa aa) aa (kQv (ai isAgg90 aa aa) aa (kQm aa aa (kQv (aJ aa) aa (kQv (aF (m:=_) dS aa aa) aa (kQv (ah isAgg134 sizeOf134 aa aa) aa ?_)))))))
 refine bC aa (ar call130 aa) (bF (q:=az) (fun Fr=>kw _ Fr h.bd s h.c hW.c hW.u)) .free aa ?_
 refine kQa aa aa (bU (ao [2] rfl (aB ?_)))
 exact aw results79 aa (fun w hw=>⟨rfl,dW (bs:=bs) (bt:=bt) (x:=x) hw⟩)
theorem dV.ok{h:HpS}{s:Dev}(hW:dV h s)(ho:h.o=true):U64 s∧s.n≤1000000∧kT h.S∧h.S.L.d=h.bd∧h.S.L.c=h.c:=⟨hW.u,hW.k.n,(hW.sw ho).1,hW.k.d,hW.k.c⟩
theorem wW(B:World)(Fr:List HP)(bh:Nat)(h:HpS)(s:Dev)(hW:dV h s)(n i v:Int)(hv:0≤v∧v<18446744073709551616):
 ∀ w,Holds B (dB bh h::az h.bd s::Fr) w→Calls Tryz.prog 48 [ptr bh,i64 n,i64 i,w64 v].toArray w (Ret B (fun rv H'=>∃ a h' s',h.write s n i v= .ok (a,h') s'∧rv=i64 a∧H'=dB bh h'::az h.bd s'::Fr) (fun ch H'=>∃ s',h.write s n i v= .off s'∧ch=dN∧H'=az h.bd s'::Fr)):=by
 refine ap func48 aa ntmps48 aa (iy fun bs bt x=>(ac (ab (kPa aa aa (ad (ac (ac (ab (kPf dH isAgg146 aa aa aa aa (ax aa (ar call80 aa) (bF (q:=mG h.o) (fun Fr=>kh B Fr bs h.S h.o)) .free aa aa ?_))))))))))
 refine kPv (bu aa) aa (ad ?_)
 refine ba aa (fun h16=> ?_) (fun h16=> ?_)
 ·have ho:h.o=false:=by simpa using h16
  have hof:¬ h.o=true:=by rw[ho];decide
  refine ac (ab (kPa aa aa (ad (aB ?_))))
  exact aw results48 aa (fun w hw=>⟨_,⟨2,h,s,by unfold HpS.write;rw[if_neg hof],rfl,rfl⟩,dW (bs:=bs) (bt:=bt) (x:=x) hw⟩)
 ·have ho:h.o=true:=by simpa using h16
  refine aU [1] (aM (H':=iB bs h.S::_) (fun w hh=>by rw[ho] at hh;exact hh) (aq (ac (ab (kPm aa aa (kPm aa aa (aU [1,1,2] (ax aa (ar call87 aa) (uc B _ bh bs bt x h s hW n) .free aa aa ?_))))))))
  refine kPm aa aa (kPv (aA aa aa) aa (kPv (aA aa aa) aa (kPb (aE zeroValue160 aa) aa fun b9=>(kPs (ay (vs:=_) sizeOf160 aa aa aa aa aa) aa (kPa aa aa (ad (ao [10,9,8,0,2,3] rfl (ac (ac (ab (kPm aa aa ?_)))))))))))
  refine kPv (am aa aa aa) aa (ad ?_)
  refine ba aa (fun h24=> ?_) (fun h24=> ?_)
  ·have hk:(h.obj s n).2≠0:=by simpa using h24
   refine ac (ab (kPm aa aa (kPa aa aa (ad (aB ?_)))))
   exact aw results48 aa (fun w hw=>⟨_,⟨(h.obj s n).2,h,s,by unfold HpS.write;rw[if_pos ho,if_pos hk],rfl,rfl⟩,pN (bs:=bs) (bt:=bt) (x:=x) ho ((hw.dp [0]).pk [0,2,0,1])⟩)
  ·have hk:¬ (h.obj s n).2≠0:=by simpa using h24
   have how:=HpS.obj_w hW (n:=n) (by omega)
   refine aq (ac (aM (H':=row b9 [i64 (h.obj s n).1.1,i64 (h.obj s n).1.2.1,i64 (h.obj s n).1.2.2] 160::_) (fun w hh=>hh) (cQ 8 Tryz.mixed (by kernel_rfl) (by kernel_rfl) ?_)))
   refine kQv (ah isAgg160 sizeOf160 aa aa) aa ?_
   refine kQm aa aa (kQm aa aa (kQm aa aa (kQv (aJ aa) aa (kQv (aF (m:=_) dH aa aa) aa (kQv (ai isAgg146 aa aa) aa (kQv (dt aa aa) aa (bU (aU [3,3] ?_))))))))
   refine aS aa (ar call88 aa) (px B _ _ _ h.bd bs bz (fun b S=>iB b S) _ _ (tG B h.bd bs h.c) (h.obj s n).1 how i v hv s h.S (hW.ok ho)) .free aa aa ?_ ?_
   rotate_left
   ·rintro _ _ ⟨s9,hm9,rfl,rfl⟩
    exact a8 fun w hh=>⟨_,⟨s9,by unfold HpS.write;rw[if_pos ho,if_neg hk,show iw fT (h.obj s n).1 i false v s h.S= .off s9 from hm9];rfl,rfl,rfl⟩,hh.dp [1,1,1,1]⟩
   rintro _ _ ⟨a2,S2,s2,hm2,rfl,hok2,rfl⟩
   refine kPa aa aa (ad (ao [8] rfl (aB ?_)))
   exact aw results48 aa (fun w hw=>⟨_,⟨a2,{h with S:=S2},s2,by unfold HpS.write;rw[if_pos ho,if_neg hk,show iw fT (h.obj s n).1 i false v s h.S= .ok (a2,S2) s2 from hm2];rfl,rfl,rfl⟩,pN (h:={h with S:=S2,T:=h.T}) (bs:=bs) (bt:=bt) (x:=x) ho ((hw.dp [2]).pk [2,1,1,1])⟩)
theorem ub(B:World)(Fr:List HP)(bh:Nat)(h:HpS)(s:Dev)(hW:dV h s)(wd rf:Int):
 ∀ w,Holds B (dB bh h::az h.bd s::Fr) w→Calls Tryz.prog 47 [ptr bh,.agg #[i64 wd,i64 rf]].toArray w (Ret B (fun rv H'=>∃ a h' s',h.alloc s wd rf= .ok (a,h') s'∧rv= .tuple #[i64 a.1,i64 a.2]∧H'=dB bh h'::az h.bd s'::Fr) (fun ch H'=>∃ s',h.alloc s wd rf= .off s'∧ch=dN∧H'=az h.bd s'::Fr)):=by
 refine ap func47 aa ntmps47 aa (iy fun bs bt x=>(ac (ab (kPb (aY aa) aa fun b3=>(kPa aa aa (kPa aa aa (ad (ac (ac (ab (kPf dH isAgg146 aa aa aa aa ?_)))))))))))
 refine ax aa (ar call80 aa) (bF (q:=mG h.o) (fun Fr=>kh B Fr bs h.S h.o)) .free aa aa ?_
 refine kPv (bu aa) aa (ad ?_)
 refine ba aa (fun h13=> ?_) (fun h13=> ?_)
 ·have ho:h.o=false:=by simpa using h13
  have hof:¬ h.o=true:=by rw[ho];decide
  refine ac (ab (kPa aa aa (kPa aa aa (ad (ao [5,4,3,0] rfl (aB ?_))))))
  exact bY results47 aa aa (fun w hw=>⟨_,⟨(0,2),h,s,by unfold HpS.alloc;rw[if_neg hof],rfl,rfl⟩,dW (bs:=bs) (bt:=bt) (x:=x) (hw.dp [0])⟩)
 ·have ho:h.o=true:=by simpa using h13
  refine aU [2] (aM (H':=iB bs h.S::_) (fun w hh=>by rw[ho] at hh;exact hh) (aq (ac (vH [14] Tryz.mixed (by kernel_rfl) (by kernel_rfl) ?_))))
  refine A9 (kQm aa aa (kQv (aJ aa) aa (kQv (aF (m:=_) hO aa aa) aa (kQv (ai isAgg90 aa aa) aa (kQm aa aa (kQv (aJ aa) aa (kQv (aF (m:=_) dS aa aa) aa (kQv (ah isAgg134 sizeOf134 aa aa) aa ?_))))))))
  refine kQv (ah isAgg102 sizeOf102 aa aa) aa ?_
  refine kQm aa aa (kQv (aJ aa) aa (kQv (aF (m:=_) dH aa aa) aa (kQv (ai isAgg146 aa aa) aa (kQv (dt aa aa) aa (bU (aU [5,0] ?_))))))
  refine aS aa (ar call85 aa) (tw B _ _ _ h.bd bs bz (fun b S=>iB b S) _ _ (tG B h.bd bs h.c) h.c hW.c wd rf s h.S (hW.ok ho)) .free aa aa ?_ ?_
  rotate_left
  ·rintro _ _ ⟨s9,hm9,rfl,rfl⟩
   exact a8 fun w hh=>⟨_,⟨s9,by unfold HpS.alloc;rw[if_pos ho,show cG fT h.c wd rf s h.S= .off s9 from hm9];rfl,rfl,rfl⟩,hh.dp [1,1,1,1]⟩
  rintro _ _ ⟨⟨at2,a2⟩,S2,s2,hm2,rfl,hok2,rfl⟩
  refine ad (Ba (kQm aa aa (kQv (aA aa aa) aa (kQv (aA aa aa) aa (kQa aa aa (kQa aa aa (bU (ao [7,6,5,4,0] rfl (ac (ac (ab ?_)))))))))))
  refine kPm aa aa (kPv (am aa aa aa) aa (ad ?_))
  refine ba aa (fun h33=> ?_) (fun h33=> ?_)
  ·have ha2:a2≠0:=by simpa using h33
   refine ac (ab (kPm aa aa (kPa aa aa (kPa aa aa (ad (aB ?_))))))
   exact bY results47 aa aa (fun w hw=>⟨_,⟨(0,a2),{h with S:=S2},s2,by unfold HpS.alloc;rw[if_pos ho,show cG fT h.c wd rf s h.S= .ok ((at2,a2),S2) s2 from hm2];simp only[aQ];rw[if_pos ha2],rfl,rfl⟩,pN (h:={h with S:=S2,T:=h.T}) (bs:=bs) (bt:=bt) (x:=x) ho ((hw.dp [2]).pk [2,1,1,1])⟩)
  ·have ha2:¬ a2≠0:=by simpa using h33
   refine aq (ac (ab (kPf iO isAgg130 aa aa aa aa (kPm aa aa (aU [4] (dM aa (ar call72 aa) (jU B _ bt h.T at2 hW.t1) .free aa aa ?_))))))
   refine kPa aa aa (kPa aa aa (ad (ao [5,4] rfl (aB ?_))))
   exact bY results47 aa aa (fun w hw=>⟨_,⟨((h.T.take at2).1,0),{h with S:=S2,T:=(h.T.take at2).2},s2,by unfold HpS.alloc;rw[if_pos ho,show cG fT h.c wd rf s h.S= .ok ((at2,a2),S2) s2 from hm2];simp only[aQ];rw[if_neg ha2],rfl,rfl⟩,pN (h:={h with S:=S2,T:=(h.T.take at2).2}) (bs:=bs) (bt:=bt) (x:=x) ho ((hw.dp [3]).pk [3,2,0,1])⟩)
def pm(X:bB)(p:Int):Int:=(bI X.went p).getD 0
def HpS.finR(h:HpS)(X:bB)(s:Dev)(a:Int)(h':HpS)(s':Dev):Prop:=∃ S',iI h.c X.block h.S s= .ok (a,S') s'∧
 ((a≠0∧h'={h with X:=none,S:=S'})∨(a=0∧∃ ord:List (Int×Int),ord.Perm h.T.at_∧h'={h with X:=none,S:=S',T:=gm.moved (pm X) h.T.last ord}))
def HpS.colR(h:HpS)(s:Dev)(a:Int)(h':HpS)(s':Dev):Prop:=(h.o=true∧a=2∧h'=h∧s'=s)∨(h.o=false∧∃ X s1,(dY h.bd h.c (h.blk s) ((h.blk s).rts++h.words)).run s= .ok X s1∧h.finR X s1 a h' s')
def HpS.colOff(h:HpS)(s s':Dev):Prop:=h.o=false∧((dY h.bd h.c (h.blk s) ((h.blk s).rts++h.words)).run s= .off s'∨∃ X s1,(dY h.bd h.c (h.blk s) ((h.blk s).rts++h.words)).run s= .ok X s1∧iI h.c X.block h.S s1= .off s')
theorem sl{B:World}{Fr:List HP}{bh bs bt x:Nat}{h:HpS}{w:World}(ho:h.o=false)(hx:h.X=none)(hh:Holds B (cz bh bs bt x h::fa bs h.S::fR bt h.T::Fr) w):Holds B (dB bh h::Fr) w:=
 vx (bs:=bs) (bt:=bt) (x:=x) ho (by rw[hx];exact(hh.unpr (p:=True) trivial).back 3 (by simp))
theorem so(B:World)(Fr:List HP)(bh:Nat)(h:HpS)(s:Dev)(hW:dV h s)(ho:h.o=true):
 ∀ w,Holds B (dB bh h::az h.bd s::Fr) w→Calls Tryz.prog 49 [ptr bh].toArray w (Ret B (fun rv H'=>∃ a h' s',h.commit s= .ok (a,h') s'∧rv=i64 a∧H'=dB bh h'::az h.bd s'::Fr) (fun ch H'=>∃ s',h.commit s= .off s'∧ch=dN∧H'=az h.bd s'::Fr)):=by
 refine ap func49 aa ntmps49 aa (iy fun bs bt x=>(aU [1] (aM (H':=iB bs h.S::_) (fun w hh=>by rw[ho] at hh;exact hh) (aU [0,3] (aM (H':=iB bs h.S::az h.S.L.d s::_) (fun w hh=>by rw[hW.k.d];exact hh) (ac (ab (kPa aa aa (ad (ac (ab ?_)))))))))))
 refine kPf dH isAgg146 aa aa aa aa ?_
 refine aS aa (ar call89 aa) (mi B _ bs h.S s (hW.sw ho).1 (hW.sw ho).2) .free aa aa ?_ ?_
 rotate_left
 ·rintro _ _ ⟨s9,hm9,rfl,rfl⟩
  exact a8 fun w hh=>⟨_,⟨s9,by unfold HpS.commit;rw[if_pos ho,hm9];rfl,rfl,rfl⟩,by rw[hW.k.d] at hh;exact hh.dp [1,1,1]⟩
 rintro _ _ ⟨S2,s2,hm2,rfl,rfl⟩
 refine kPa aa aa (ad (aB ?_))
 exact aw results49 aa (fun w hw=>⟨_,⟨0,{h with o:=false,S:=S2},s2,by unfold HpS.commit;rw[if_pos ho,hm2];rfl,rfl,rfl⟩,by rw[hW.k.d] at hw;exact vx (h:={h with o:=false,S:=S2}) (bs:=bs) (bt:=bt) (x:=x) aa (hw.pk [2,0,1,1])⟩)
theorem sr(B:World)(Fr:List HP)(bh:Nat)(h:HpS)(s:Dev)(hW:dV h s)(ho:h.o=false):
 ∀ w,Holds B (dB bh h::az h.bd s::Fr) w→Calls Tryz.prog 49 [ptr bh].toArray w (Ret B (fun rv H'=>∃ a h' s',h.commit s= .ok (a,h') s'∧rv=i64 a∧H'=dB bh h'::az h.bd s'::Fr) (fun ch H'=>∃ s',h.commit s= .off s'∧ch=dN∧H'=az h.bd s'::Fr)):=by
 refine ap func49 aa ntmps49 aa (iy fun bs bt x=>(aU [1] (aM (H':=fa bs h.S::_) (fun w hh=>by rw[ho] at hh;exact hh) (ac (ab (kPa aa aa (ad (ac (ab (kPf dH isAgg146 aa aa aa aa (ax aa (ar call89 aa) (bF (q:=fa) (fun Fr=>rC B Fr bs h.S)) .free aa aa ?_)))))))))))
 refine kPa aa aa (ad (aB ?_))
 exact aw results49 aa (fun w hw=>⟨_,⟨2,h,s,by unfold HpS.commit;rw[if_neg (by rw[ho];decide)],rfl,rfl⟩,vx (bs:=bs) (bt:=bt) (x:=x) ho (hw.pk [1])⟩)
theorem uf(B:World)(Fr:List HP)(bh:Nat)(h:HpS)(s:Dev)(hW:dV h s):∀ w,Holds B (dB bh h::az h.bd s::Fr) w→Calls Tryz.prog 49 [ptr bh].toArray w (Ret B (fun rv H'=>∃ a h' s',h.commit s= .ok (a,h') s'∧rv=i64 a∧H'=dB bh h'::az h.bd s'::Fr) (fun ch H'=>∃ s',h.commit s= .off s'∧ch=dN∧H'=az h.bd s'::Fr)):=by
 cases ho:h.o
 ·exact sr B Fr bh h s hW ho
 ·exact so B Fr bh h s hW ho
theorem yE(B:World)(Fr:List HP)(c1 x:Nat)(X:bB)(p:Int)(hp:0≤p∧p≤1000000):
 ∀ w,Holds B (row c1 [ptr x] 147::eI x X::Fr) w→Calls Tryz.prog 187 [i64 p,ptr c1].toArray w (aZ B (row c1 [ptr x] 147::eI x X::Fr) (i64 (pm X p))):=by
 refine ap func187 aa ntmps187 aa (ac (ab (kPa aa aa (ad (ac (ab (kPv (ai isAgg147 aa aa) aa (kPm aa aa (kPv (c7 runUnderlying3 runUnderlying25 aa (fD (by omega))) aa (ax aa (ar call118 aa) (bF (q:=eI) (fun Fr=>sT B Fr x X p)) .free aa aa ?_))))))))))
 refine kPa aa aa (ad (aB ?_))
 exact aw results187 aa (fun w hw=>⟨rfl,hw⟩)
theorem Af(B:World)(c1 x:Nat)(X:bB):Bl B 187 [] [ptr c1] Unit (fun _=>[row c1 [ptr x] 147,eI x X]) (fun p=>0≤p∧p≤1000000) (pm X) (fun _ e=>e) where
 enter:=call187
 says:=fun Fr p e hp w hw=>(yE B Fr c1 x X p hp w hw).mono fun en w' h=>by
  obtain⟨rfl,h⟩:=h
  exact⟨_,⟨rfl,rfl⟩,h⟩
theorem ue(B:World)(Fr:List HP)(bh bs bt x:Nat)(h:HpS)(s:Dev)(X:bB)(hx:h.X=some X)(ho:h.o=false)(hX:eT X)(hrl0:0<X.b.rts.length)(hu:U64 s)(hK:zI h.S h.bd h.c s)(htp:∀ p∈h.T.at_,0≤p.2∧p.2≤1000000):
 ∀ w,Holds B (cz bh bs bt x h::fa bs h.S::fR bt h.T::eI x X::az h.bd s::Fr) w→Calls Tryz.prog 136 [ptr bh].toArray w (Ret B (fun rv H'=>∃ a h' s',h.finR X s a h' s'∧rv=i64 a∧H'=dB bh h'::az h.bd s'::Fr) (fun ch H'=>∃ s',iI h.c X.block h.S s= .off s'∧ch=dN∧H'=az h.bd s'::Fr)):=by
 refine ap func136 aa ntmps136 aa (aM (H':=row bh [ptr h.bd,i64 h.c.log,i64 h.c.roots,i64 h.c.space,ptr bs,ptr bt,ptr x] 149::_) (fun w hh=>by have h9:=hh;unfold cz at h9;rw[hx] at h9;exact h9) (ac (ab (kPa aa aa (ad (ac (ab (kPf j3 isAgg147 aa aa aa aa (kPb (bX zeroValue147 aa) aa fun b3=> ?_)))))))))
 refine kPs (aO sizeOf147 aa aa (by first | rfl | assumption) rfl) rfl ?_;refine ad ?_;refine ac ?_;refine ab ?_;refine kPm aa aa ?_;refine kPv (aJ aa) aa ?_;refine kPv (aF (m:=_) j3 aa aa) aa ?_
 refine kPs (aO sizeOf147 aa aa (by first | rfl | assumption) rfl) rfl ?_;refine ad ?_;refine ao [3,2,0] rfl ?_;refine ac ?_;refine ac ?_;refine aU [1,0] ?_;refine aM (H':=cz bh bs bt x {h with X:=none}::row b3 [ptr x] 147::_) (fun w hh=>hh) ?_;refine cQ 13 Tryz.mixed (by kernel_rfl) (by kernel_rfl) ?_;refine kQm aa aa ?_;refine kQv (aJ aa) aa ?_;refine kQv (aF (m:=_) hO aa aa) aa ?_
 refine kQv (ai isAgg90 aa aa) aa (kQm aa aa (kQv (aJ aa) aa (kQv (aF (m:=_) dS aa aa) aa (kQv (ah isAgg134 sizeOf134 aa aa) aa ?_))))
 refine kQm aa aa (kQv (aJ aa) aa (kQv (aF (m:=_) dH aa aa) aa (kQv (ai isAgg146 aa aa) aa (kQv (ai isAgg147 aa aa) aa (bU (aU [2,3,3] ?_))))))
 refine aS aa (ar call172 aa) (vI B _ bs x h.bd h.S X hX hrl0 h.c s hu hK) .free aa aa ?_ ?_
 rotate_left
 ·rintro _ _ ⟨s9,hm9,rfl,rfl⟩
  exact a8 fun w hh=>⟨_,⟨s9,hm9,rfl,rfl⟩,hh.dp [1,1,1]⟩
 rintro _ _ ⟨a2,S2,s2,hm2,rfl,rfl⟩
 refine kPa aa aa (ad (ao [4,3,2,0] rfl (ac (ab (kPm aa aa (kPv (am aa aa aa) aa (ad ?_)))))))
 refine ba aa (fun h27=> ?_) (fun h27=> ?_)
 ·have ha2:a2≠0:=by simpa using h27
  refine ac (ab (kPm aa aa (kPa aa aa (ad (aB ?_)))))
  exact aw results136 aa (fun w hw=>⟨_,⟨a2,{h with X:=none,S:=S2},s2,⟨S2,hm2,.inl ⟨ha2,rfl⟩⟩,rfl,rfl⟩,sl (h:={h with X:=none,S:=S2}) (bs:=bs) (bt:=bt) (x:=x) ho aa ((hw.dp [1,3]).pk [2,0,1])⟩)
 ·have ha2:a2=0:=by simpa using h27
  refine aq (ac (ab (kPf iO isAgg130 aa aa aa aa (kPv (dt aa aa) aa (aU [5,4,1] (aI aa (ar call186 aa) ((fun w hh=>wY B _ bt h.T _ [] [ptr b3] Unit _ _ _ _ (Af B b3 x X) htp () w hh)) .free aa aa ?_))))))
  rintro _ _ ⟨ord,hperm,rfl⟩
  refine aM (H':=fR bt (gm.moved (pm X) h.T.last ord)::row b3 [ptr x] 147::eI x X::fa bs S2::az h.bd s2::cz bh bs bt x {h with X:=none}::Fr) (fun w hh=>hh) (ad (ao [2] rfl (ac (ab (kPa aa aa (ad (aB ?_)))))))
  exact aw results136 aa (fun w hw=>⟨_,⟨0,{h with X:=none,S:=S2,T:=gm.moved (pm X) h.T.last ord},s2,⟨S2,by rw[←ha2];exact hm2,.inr ⟨rfl,ord,hperm,rfl⟩⟩,rfl,rfl⟩,sl (h:={h with X:=none,S:=S2,T:=gm.moved (pm X) h.T.last ord}) (bs:=bs) (bt:=bt) (x:=x) ho aa ((hw.dp [1,1]).pk [3,1])⟩)
theorem tY{k:Int}{v:Int}:∀ {l:List (Int×Int)} {p:Int×Int},p∈mset l k v→p.2=v∨p∈l
 | [],p,h=>by
   simp only[mset,List.mem_singleton] at h
   exact .inl (by rw[h])
 | q::l,p,h=>by
   unfold mset at h
   split at h
   ·rcases List.mem_cons.1 h with h | h
    ·exact .inl (by rw[h])
    ·exact .inr (List.mem_cons_of_mem _ h)
   ·rcases List.mem_cons.1 h with h | h
    ·exact .inr (by rw[h];exact List.mem_cons_self ..)
    ·exact(tY h).imp id (List.mem_cons_of_mem _)
theorem vh{to_:Int→Int}{P:Int→Prop}(hP:∀ p,P (to_ p)):∀ (ord:List (Int×Int)) (x:List (Int×Int)×List (Int×Int)),(∀ p∈x.1,P p.2)→(∀ p∈(ord.foldl (dr to_) x).1,P p.2)∧(ord.foldl (dr to_) x).1.length≤x.1.length+ord.length
 | [],x,h=>⟨h,by simp⟩
 | a::t,x,h=>by
   simp only[List.foldl_cons,List.length_cons]
   have hx:(∀ p∈(dr to_ x a).1,P p.2)∧(dr to_ x a).1.length≤x.1.length+1:=by
    unfold dr
    split
    ·refine⟨fun p hp=> ?_,nT ..⟩
     rcases tY hp with e | e
     ·rw[e];exact hP _
     ·exact h p e
    ·exact⟨h,by omega⟩
   have:=vh hP t _ hx.1
   exact⟨this.1,by omega⟩
theorem dV.moved{h:HpS}{s s':Dev}(hW:dV h s){to_:Int→Int}(hto:∀ p,0≤to_ p∧to_ p≤1000000){ord:List (Int×Int)}(hp:ord.Perm h.T.at_){S':bz}(hL:dD S'.L)(hd:S'.L.d=h.bd)(hc:S'.L.c=h.c)(hu:U64 s')(hn:s'.n=s.n):dV {h with X:=none,o:=false,S:=S',T:=gm.moved to_ h.T.last ord} s':=by
 obtain⟨g1,g2⟩:=vh (to_:=to_) (P:=fun v=>0≤v∧v≤1000000) hto ord ([],[]) (fun _ h=>by cases h)
 exact⟨hW.c,⟨hL,by rw[hn];exact hW.k.n,hd,hc⟩,fun h=>(by cases h),hu,hW.t1,by
  show(ord.foldl (dr to_) ([],[])).1.length≤_
  have h1:=hp.length_eq;have h2:=hW.tl
  simp only[List.length_nil] at g2;omega,g1,fun X hX=>(by cases hX)⟩
theorem HpS.words_b{h:HpS}{s:Dev}(hW:dV h s):(∀ v∈h.words,0≤v∧v<18446744073709551616)∧h.words.length≤800000:=
 ⟨fun v hv=>by
  obtain⟨n,_,rfl⟩:=List.mem_map.1 hv
  have:=hW.pb n;omega,by have:=hW.tl;simp[HpS.words,bT];exact this⟩
abbrev HpS.ncol(h:HpS)(s:Dev):bB:=dY h.bd h.c (h.blk s) ((h.blk s).rts++h.words)
theorem dV.ncol{h:HpS}{s:Dev}(hW:dV h s):eT (h.ncol s):=
 lj hW.c (dA hW.c hW.u) (fy hW.c) (fx hW.u) (fun v hv=>by
  rcases List.mem_append.1 hv with hv | hv
  ·exact fx hW.u v hv
  ·exact(HpS.words_b hW).1 v hv)
theorem CK{h:HpS}{s s1:Dev}{X:bB}{a:Int}{h':HpS}{s':Dev}(hW:dV h s)(ho:h.o=false)(hX:eT X)(hu:U64 s1)(hn:s1.n=s.n)(e:h.finR X s1 a h' s'):dV h' s'∧h'.o=false∧h'.X=none∧h'.bd=h.bd∧h'.c=h.c:=by
 obtain⟨S',e1,hor⟩:=e
 obtain⟨k1,k2,k3,k4,k5,_⟩:=yR (tc hX) hW.k.w hu (by rw[hn];exact hW.k.n) e1
 rcases hor with ⟨_,rfl⟩ | ⟨_,ord,hp,rfl⟩
 ·exact⟨⟨hW.c,⟨k3,by rw[k2,hn];exact hW.k.n,k4.trans hW.k.d,k5.trans hW.k.c⟩,fun h2=>(by rw[show h.o=true from h2] at ho;cases ho),k1,hW.t1,hW.tl,hW.tp,fun X hX=>(by cases hX)⟩,ho,rfl,rfl,rfl⟩
 ·have h1:=hW.moved (fun p=>hX.vb p) hp k3 (k4.trans hW.k.d) (k5.trans hW.k.c) k1 (k2.trans hn)
  rw[←ho] at h1
  exact⟨h1,ho,rfl,rfl,rfl⟩
theorem CT{h:HpS}{s:Dev}{a:Int}{h':HpS}{s':Dev}(hW:dV h s)(ho:h.o=false)(e:h.colR s a h' s'):dV h' s'∧h'.o=false∧h'.X=none∧h'.bd=h.bd∧h'.c=h.c:=by
 rcases e with ⟨h1,_⟩ | ⟨_,X,s1,e1,e2⟩
 ·rw[ho] at h1;cases h1
 ·obtain⟨g1,g2,_⟩:=nA _ _ _ _ _ hW.ncol hW.u e1
  exact CK hW ho g1 g2 (u3 e1) e2
theorem qI(B:World)(Fr:List HP)(bh:Nat)(h:HpS)(s:Dev)(hW:dV h s)(hb:(s.block h.c).2=0):
 ∀ w,Holds B (dB bh h::az h.bd s::Fr) w→Calls Tryz.prog 82 [ptr bh].toArray w (Ret B (fun rv H'=>∃ a h' s',h.colR s a h' s'∧rv=i64 a∧H'=dB bh h'::az h.bd s'::Fr) (fun ch H'=>∃ s',h.colOff s s'∧ch=dN∧H'=az h.bd s'::Fr)):=by
 refine ap func82 aa ntmps82 aa (iy fun bs bt x=> ?_)
 have hbk:=dA (s:=s) hW.c hW.u
 have hbl:(h.blk s).rts.length≤16:=fy (s:=s) hW.c
 obtain⟨hwb,hwl⟩:=HpS.words_b hW
 refine ac (ab (kPa aa aa (ad (ac (ac (ab (kPf dH isAgg146 aa aa aa aa (ax aa (ar call80 aa) (bF (q:=mG h.o) (fun Fr=>kh B Fr bs h.S h.o)) .free aa aa ?_))))))))
 refine ad ?_
 refine ba aa (fun h8=> ?_) (fun h8=> ?_)
 ·have ho:h.o=true:=by simpa using h8
  refine ac (ab (kPa aa aa (ad (aB ?_))))
  exact aw results82 aa (fun w hw=>⟨_,⟨2,h,s,.inl ⟨ho,rfl,rfl,rfl⟩,rfl,rfl⟩,dW (bs:=bs) (bt:=bt) (x:=x) hw⟩)
 ·have ho:h.o=false:=by simpa using h8
  refine aU [1] (aM (H':=fa bs h.S::_) (fun w hh=>by rw[ho] at hh;exact hh) (aq (ac (ab (kPm aa aa (aU [1,3] (aI aa (ar call81 aa) (gi B _ bh bs bt x h s hW.c hW.u) .free aa aa ?_)))))))
  rintro _ _ ⟨sv,hsv,rfl,rfl⟩
  refine cx fun qb cb hqb hqbi=> ?_
  subst hqb
  refine kPb (aE zeroValue151 aa) aa fun b3=> ?_
  refine kPs (ay (vs:=_) sizeOf151 aa aa aa (by first | rfl | exact eC (by assumption)) rfl) rfl ?_;refine ad ?_;refine ao [3,2,0] rfl ?_;refine ac ?_;refine aM (H':=row b3 [i64 (h.blk s).act,i64 (h.blk s).used,.slice qb (h.blk s).rts.length cb] 151::_) (fun w hh=>hh) ?_
  refine cM [0,1,2,3,4,5,6,7,8,9,11,12,14,10,13,15,16,17,18,19,20] [10,13,15,16,17,20] [0,1,2,3,4,5,6,7,8,9,11,12,14] [10,13,15,16,17] [cz bh bs bt x h,row b3 [i64 (h.blk s).act,i64 (h.blk s).used,.slice qb (h.blk s).rts.length cb] 151] Tryz.mixed (by kernel_rfl) ?_
  refine an aa aa aa (ak aa) .free aa (an aa aa aa (ak aa) .free aa (an aa aa aa (aJ aa) .free aa (an aa aa aa (aF (m:=_) hO aa aa) .free aa (an aa aa aa (ai isAgg90 aa aa) .free aa (an aa aa aa (ak aa) .free aa (an aa aa aa (aJ aa) .free aa (an aa aa aa (aF (m:=_) dS aa aa) .free aa (an aa aa aa (ah isAgg134 sizeOf134 aa aa) .free aa ?_))))))))
  refine an aa aa aa (ah isAgg151 sizeOf151 aa aa) .free aa ?_
  refine an aa aa aa (aF (m:=_) eP aa aa) .free aa (an aa aa aa (ai isAgg30 aa aa) .free aa (an aa aa aa (ak aa) .free aa (aR aa aa (kPb (ur runUnderlying30 sizeOf25) aa fun b21=>(aM (H':=cN 0 (.slice (some ⟨b21,0,none⟩) 0 0,[])::_) (fun w hh=>gH (xs:=[]) aa aa hh) (ad (cK (aR aa aa (cP aa (dT (yv:= .slice qb (h.blk s).rts.length cb) (ys:=(h.blk s).rts) aa aa runUnderlying30 runUnderlying30 ⟨_,rfl⟩ sizeOf25 zeroValue25 aa (fun _=>rfl) ik aa aa (cH (2 - 1) aa) (by simp;omega)) .free aa aa ?_)))))))))
  rintro nv2 _ ⟨hnv2,rfl⟩
  refine ad (cK (aR aa aa (aU [3,5] (aI aa (ar call134 aa) (pH B _ bh bs bt x h s hW) .free aa aa ?_))))
  rintro wv _ ⟨hwv,rfl⟩
  refine cx fun qw cw hqw hqwi=> ?_
  subst hqw
  refine ad (cK (aR aa aa (aU [3] (cP aa (dT (yv:= .slice qw h.words.length cw) (ys:=h.words) aa aa runUnderlying30 runUnderlying30 ⟨_,rfl⟩ sizeOf25 zeroValue25 aa (fun _=>rfl) ik aa aa (cH (1 - 1) aa) (by simp;omega)) .free aa aa ?_))))
  rintro nv3 _ ⟨hnv3,rfl⟩
  refine cx fun qn cn hqn0 hqni=> ?_
  subst hqn0
  have hqn:qn=none→(h.blk s).rts++h.words=[]:=fun e=>by
   cases hl:(h.blk s).rts++h.words with
   | nil=>rfl
   | cons a t=>
     obtain⟨b,o,h⟩:=hqni 0 (by show 0<((h.blk s).rts++h.words).length;rw[hl];exact Nat.succ_pos _)
     rw[e] at h;cases h
  refine ad (cK (aR aa aa (aU [5] (aI aa (ar call133 aa) (q5 B _ h.bd h.c hW.c (h.blk s) hbk (.slice qb (h.blk s).rts.length cb) aa qn cn ((h.blk s).rts++h.words) (by simp;omega) hqn (cH 1 aa)) .free aa aa ?_))))
  rintro _ _ ⟨x2,rfl,rfl⟩
  refine ad (cK (aV aa aa aa (aJ aa) .free aa (aV aa aa aa (aF (m:=_) j3 aa aa) .free aa (aR aa aa (aU [3] (kPs (aO sizeOf147 aa aa aa aa) aa (aM (H':=cz bh bs bt x2 {h with X:=some (h.ncol s)}::_) (fun w hh=>hh) (ad (cU aa (cC (ao [2,0] rfl ?_)))))))))))
  refine ac (ab (kPf j3 isAgg147 aa aa aa aa (aU [1,5] ?_)))
  refine aS aa (ar call135 aa) (vV B _ x2 (h.ncol s) hW.ncol s hW.u) .free aa aa ?_ ?_
  rotate_left
  ·rintro _ _ ⟨s9,hm9,rfl,rfl⟩
   exact a8 fun w hh=>⟨_,⟨s9,⟨ho,.inl hm9⟩,rfl,rfl⟩,(show Holds B (az h.bd s9::_) w from hh).dp [1,1,1,1,1,1,1]⟩
  rintro _ _ ⟨X,s1,hm1,rfl,rfl⟩
  obtain⟨hX1,hu1,hXb,hXbd,hXc,_⟩:=nA _ _ _ _ _ hW.ncol hW.u hm1
  have hn1:=u3 hm1
  refine aM (H':=eI x2 X::az h.bd s1::_) (fun w hh=>hh) (ad (ac (aU [2] (aM (H':=cz bh bs bt x2 {h with X:=some X}::_) (fun w hh=>hh) (ab (kPm aa aa (aU [0,6,4,0,0] ?_)))))))
  refine aS aa (ar call136 aa) (ue B _ bh bs bt x2 {h with X:=some X} s1 X aa ho hX1 (by rw[hXb];exact p7 hW.c hb) hu1 ⟨hW.k.w,by rw[hn1];exact hW.k.n,hW.k.d,hW.k.c⟩ hW.tp) .free aa aa ?_ ?_
  rotate_left
  ·rintro _ _ ⟨s9,hm9,rfl,rfl⟩
   exact a8 fun w hh=>⟨_,⟨s9,⟨ho,.inr ⟨X,s1,hm1,hm9⟩⟩,rfl,rfl⟩,(show Holds B (az h.bd s9::_) w from hh).dp [1,1,1,1]⟩
  rintro _ _ ⟨a2,h2,s2,hf2,rfl,rfl⟩
  refine kPa aa aa (ad (ao [2] rfl (aB ?_)))
  exact aw results82 aa (fun w hw=>⟨_,⟨a2,h2,s2,.inr ⟨ho,X,s1,hm1,hf2⟩,rfl,rfl⟩,(hw.dp [2,2,2,2])⟩)
def HpS.opened(h:HpS)(s:Dev):HpS:={h with o:=true,S:=h.S.fresh ((h.blk s).place h.c (h.blk s).used) ((h.blk s).place h.c h.c.space)}
def HpS.begR(h:HpS)(s:Dev)(room a:Int)(h':HpS)(s':Dev):Prop:=
 (h.o=true∧a=2∧h'=h∧s'=s)∨(h.o=false∧room<0∧a=1∧h'=h∧s'=s)∨
 (h.o=false∧0≤room∧∃ a1 h1 s1,((h.c.space - (h.blk s).used<room∧HpS.colR {h with X:=none} s a1 h1 s1)∨(¬ h.c.space - (h.blk s).used<room∧a1=0∧h1={h with X:=none}∧s1=s))∧
  ((a1≠0∧a=a1∧h'=h1∧s'=s1)∨(a1=0∧h.c.space - (h1.blk s1).used<room∧a=4∧h'=h1∧s'=s1)∨(a1=0∧¬ h.c.space - (h1.blk s1).used<room∧a=0∧h'=h1.opened s1∧s'=s1)))
theorem sD(B:World)(H:List HP)(c:Cfg)(hc:bj c)(b:Blk)(sv:Value)(hb:fS c b)(hsv:aL sv=true):
 ∀ w,Holds B H w→Calls Tryz.prog 84 [dQ c,kR b sv].toArray w (aZ B H (.agg #[i64 (b.place c b.used),i64 (b.place c c.space)])):=by
 refine ap func84 aa ntmps84 aa ?_
 have h1:=hb.used
 have h2:=hc.s1
 have h3:=hc.s2
 refine ac (ab (kPb (aY aa) aa fun b2=>(kPb (aY aa) aa fun b3=>(kPb (aE zeroValue155 aa) aa fun b4=>(ad (ac (cQ 11 Tryz.mixed (by kernel_rfl) (by kernel_rfl) ?_)))))))
 refine kQv (ah isAgg151 sizeOf151 aa aa) aa ?_
 refine kQv (ah isAgg134 sizeOf134 aa aa) aa ?_
 refine kQv (aF (m:=_) dz aa aa) aa (kQv (ai isAgg3 aa aa) aa (bC aa (ar call137 aa) (gQ _ _ c hc b sv hb hsv _ (by omega)) .free aa ?_))
 refine kQv (ah isAgg151 sizeOf151 aa aa) aa ?_
 refine kQv (ah isAgg134 sizeOf134 aa aa) aa ?_
 refine kQv (aF (m:=_) eQ aa aa) aa (kQv (ai isAgg3 aa aa) aa (bC aa (ar call137 aa) (gQ _ _ c hc b sv hb hsv _ (by omega)) .free aa ?_))
 refine kQv (aP aa (tv _ _ aa aa)) aa (bU (kPs (ay (vs:=_) sizeOf155 aa aa aa aa aa) aa (ad (ao [4] rfl (aB ?_)))))
 exact pv results84 (.cellA aa isAgg155 sizeOf155 aa aa) (fun w hw=>⟨rfl,(hw.dp [0,0,0])⟩)
theorem w2(B:World)(Fr:List HP)(bh:Nat)(h:HpS)(s:Dev)(hW:dV h s)(hb:(s.block h.c).2=0)(room:Int):
 ∀ w,Holds B (dB bh h::az h.bd s::Fr) w→Calls Tryz.prog 46 [ptr bh,i64 room].toArray w (Ret B (fun rv H'=>∃ a h' s',h.begR s room a h' s'∧rv=i64 a∧H'=dB bh h'::az h.bd s'::Fr) (fun ch H'=>∃ s',(fun s'=>h.o=false∧h.c.space - (h.blk s).used<room∧HpS.colOff {h with X:=none} s s') s'∧ch=dN∧H'=az h.bd s'::Fr)):=by
 refine ap func46 aa ntmps46 aa (iy fun bs bt x=> ?_)
 have hbk:=dA (s:=s) hW.c hW.u
 have hbu:0≤(h.blk s).used∧(h.blk s).used≤h.c.space:=hbk.used
 have hs2:=hW.c.s2
 have hs1':=hW.c.s1
 have hbu1:0≤(HpS.blk {h with X:=none} s).used∧(HpS.blk {h with X:=none} s).used≤h.c.space:=hbk.used
 have hW1:dV {h with X:=none} s:=⟨hW.c,hW.k,hW.sw,hW.u,hW.t1,hW.tl,hW.tp,fun X h=>(by cases h)⟩
 refine ac (ab (kPa aa aa (ad (ac (aK (ac (ab (kPf dH isAgg146 aa aa aa aa (ax aa (ar call80 aa) (bF (q:=mG h.o) (fun Fr=>kh B Fr bs h.S h.o)) .free aa aa ?_)))))))))
 refine kPa aa aa (ad ?_)
 refine ba aa (fun h7=> ?_) (fun h7=> ?_)
 ·have ho:h.o=true:=by simpa using h7
  refine ac (ab (kPa aa aa (ad (aB ?_))))
  exact aw results46 aa (fun w hw=>⟨_,⟨2,h,s,.inl ⟨ho,rfl,rfl,rfl⟩,rfl,rfl⟩,dW (bs:=bs) (bt:=bt) (x:=x) hw⟩)
 ·have ho:h.o=false:=by simpa using h7
  refine aU [1] (aM (H':=fa bs h.S::_) (fun w hh=>by rw[ho] at hh;exact hh) (ac (ab (kPm aa aa (kPv (am aa aa aa) aa (kPa aa aa (ad (ao [13,4,0,1] rfl ?_))))))))
  refine ba aa (fun h13=> ?_) (fun h13=> ?_)
  ·have hr0:room<0:=by simpa using h13
   refine ac (ab (kPa aa aa (ad (aB ?_))))
   exact aw results46 aa (fun w hw=>⟨_,⟨1,h,s,.inr (.inl ⟨ho,hr0,rfl,rfl,rfl⟩),rfl,rfl⟩,vx (bs:=bs) (bt:=bt) (x:=x) ho (hw.pk [1])⟩)
  ·have hr0:0≤room:=by simpa using h13
   refine aq (ac (ab (kPm aa aa (kPv (aJ aa) aa (kPv (aF (m:=_) j3 aa aa) aa ?_)))))
   refine kPs (aO sizeOf147 aa aa (by first | rfl | assumption) rfl) rfl ?_;refine ad ?_;refine ac ?_;refine ac ?_;refine aU [1] ?_;refine aM (H':=cz bh bs bt x {h with X:=none}::_) (fun w hh=>hh) ?_
   refine cM [0,1,2,3,4,5,6,7,8,9,10] [7] [0,1,2,3,4,5] [7] [cz bh bs bt x {h with X:=none}] Tryz.mixed (by kernel_rfl) ?_
   refine an aa aa aa (ak aa) .free aa (an aa aa aa (ak aa) .free aa (an aa aa aa (aJ aa) .free aa (an aa aa aa (aF (m:=_) dS aa aa) .free aa (an aa aa aa (aF (m:=_) eQ aa aa) .free aa (an aa aa aa (ai isAgg3 aa aa) .free aa (aV aa aa aa (ak aa) .free aa (aR aa aa (aU [0,3] (aI aa (ar call81 aa) (gi B _ bh bs bt x {h with X:=none} s hW.c hW.u) .free aa aa ?_)))))))))
   rintro _ _ ⟨sv,hsv,rfl,rfl⟩
   refine cx fun qb cb hqb hqbi=> ?_
   subst hqb
   refine ad (cK (aV aa aa aa (gM runUnderlying151 (t:=3) (off:=1) aa isAgg3 aa aa) .free aa (aV aa aa aa (oz (c:=h.c.space - (h.blk s).used) aa aa (show IntKind.i64.wrap (h.c.space - (h.blk s).used)=_ from gp (by omega))) .free aa (aV aa aa aa (am aa aa aa) .free aa (cC (ao [29,4,0,1] rfl ?_))))))
   refine ba aa (fun h29=> ?_) (fun h29=> ?_)
   ·have hroom:(h.c.space - (h.blk s).used<room):=by simpa using h29
    refine aM (H':=dB bh {h with X:=none}::az h.bd s::Fr) (fun w hh=>sl (h:={h with X:=none}) (bs:=bs) (bt:=bt) (x:=x) ho aa ((hh.dp [0,4]).pk [0,1,1])) (ac (ab (kPm aa aa ?_)))
    refine aS aa (ar call82 aa) (qI B _ bh {h with X:=none} s hW1 hb) .free aa aa ?_ ?_
    rotate_left
    ·rintro _ _ ⟨s9,hm9,rfl,rfl⟩
     exact a8 fun w hh=>⟨_,⟨s9,⟨ho,hroom,hm9⟩,rfl,rfl⟩,(show Holds B (az h.bd s9::_) w from hh)⟩
    rintro _ _ ⟨a1,h1,s1,hr1,rfl,rfl⟩
    obtain⟨hW2,ho2,hx2,hbd2,hc2⟩:=CT hW1 ho hr1
    have hbd3:h1.bd=h.bd:=hbd2
    have hc3:h1.c=h.c:=hc2
    refine kPa aa aa (ad (ac (ab (kPm aa aa (kPv (am aa aa aa) aa (ad ?_))))))
    refine ba aa (fun h33=> ?_) (fun h33=> ?_)
    ·have ha1:a1≠0:=by simpa using h33
     refine ac (ab (kPm aa aa (kPa aa aa (ad (ao [4,0,1] rfl (aB ?_))))))
     exact aw results46 aa (fun w hw=>⟨_,⟨a1,h1,s1,.inr (.inr ⟨ho,hr0,a1,h1,s1,.inl ⟨hroom,hr1⟩,.inl ⟨ha1,rfl,rfl,rfl⟩⟩),rfl,rfl⟩,hw⟩)
    ·have ha1:a1=0:=by simpa using h33
     refine aq (ac (iy fun bs2 bt2 x2=>(aU [0,3] (aM (H':=cz bh bs2 bt2 x2 h1::az h1.bd s1::_) (fun w hh=>by rw[hbd3];exact hh) ?_))))
     have hbk2:=dA (s:=s1) hW2.c hW2.u
     have hbu2:0≤(h1.blk s1).used∧(h1.blk s1).used≤h1.c.space:=hbk2.used
     have hs3:=hW2.c.s2
     refine ab (kPm aa aa (aI aa (ar call81 aa) (gi B _ bh bs2 bt2 x2 h1 s1 hW2.c hW2.u) .free aa aa ?_))
     rintro _ _ ⟨sv,hsv,rfl,rfl⟩
     refine cx fun qb cb hqb hqbi=> ?_
     subst hqb
     refine kPb (aE zeroValue151 aa) aa fun b6=> ?_
     refine kPs (ay (vs:=_) sizeOf151 aa aa aa (by first | rfl | exact eC (by assumption)) rfl) rfl ?_;refine ad ?_;refine ao [6,4,0,1] rfl ?_;refine ac ?_;refine ac ?_;refine aM (H':=row b6 [i64 (h1.blk s1).act,i64 (h1.blk s1).used,.slice qb (h1.blk s1).rts.length cb] 151::_) (fun w hh=>hh) ?_;refine cL Tryz.mixed (by kernel_rfl) (by kernel_rfl) ?_;refine kQm aa aa ?_
     refine kQm aa aa (kQv (aJ aa) aa (kQv (aF (m:=_) dS aa aa) aa (kQv (aF (m:=_) eQ aa aa) aa (kQv (ai isAgg3 aa aa) aa (kQv (aF (m:=_) dz aa aa) aa (kQv (ai isAgg3 aa aa) aa (kQv (eV aa aa) aa (kQv (am aa aa aa) aa (bU (ao [46,6,4,0] rfl ?_))))))))))
     refine ba aa (fun h46=> ?_) (fun h46=> ?_)
     ·have hr2:h.c.space - (h1.blk s1).used<room:=by rw[←hc3];simpa using h46
      refine ac (ab (kPa aa aa (ad (aB ?_))))
      exact aw results46 aa (fun w hw=>⟨_,⟨4,h1,s1,.inr (.inr ⟨ho,hr0,a1,h1,s1,.inl ⟨hroom,hr1⟩,.inr (.inl ⟨ha1,hr2,rfl,rfl,rfl⟩)⟩),rfl,rfl⟩,by
   have h9:=dW (h:=h1) (bs:=bs2) (bt:=bt2) (x:=x2) ((hw.dp [0,0]).pk [0,1,1,1])
   rw[hbd3] at h9;exact h9⟩)
     ·have hr2:¬ h.c.space - (h1.blk s1).used<room:=by rw[←hc3];simpa using h46
      refine aU [4] (aM (H':=fa bs2 h1.S::_) (fun w hh=>by rw[ho2] at hh;exact hh) (aq (ac (cQ 10 Tryz.mixed (by kernel_rfl) (by kernel_rfl) ?_))))
      refine kQm aa aa (kQv (aJ aa) aa (kQv (aF (m:=_) dH aa aa) aa (kQv (ai isAgg146 aa aa) aa (kQm aa aa (kQv (aJ aa) aa (kQv (aF (m:=_) dS aa aa) aa (kQv (ah isAgg134 sizeOf134 aa aa) aa ?_)))))))
      refine kQv (ah isAgg151 sizeOf151 aa aa) aa ?_
      refine bC aa (ar call84 aa) (sD _ _ h1.c hW2.c (h1.blk s1) (.slice qb (h1.blk s1).rts.length cb) hbk2 aa) .free aa ?_
      refine bU (dM aa (ar call83 aa) (jb B _ bs2 h1.S _ _) .free aa aa ?_)
      refine kPa aa aa (ad (ao [4] rfl (aB ?_)))
      exact aw results46 aa (fun w hw=>⟨_,⟨0,h1.opened s1,s1,.inr (.inr ⟨ho,hr0,a1,h1,s1,.inl ⟨hroom,hr1⟩,.inr (.inr ⟨ha1,hr2,rfl,rfl,rfl⟩)⟩),rfl,rfl⟩,by
   have h9:=pN rfl (h:=h1.opened s1) (bs:=bs2) (bt:=bt2) (x:=x2) ((hw.dp [1,1]).pk [1,0,1,1])
   rw[hbd3] at h9;exact h9⟩)
   ·have hroom:¬ (h.c.space - (h.blk s).used<room):=by simpa using h29
    obtain⟨h1,hh1⟩:∃ h1:HpS,h1={h with X:=none}:=⟨_,rfl⟩
    obtain⟨s1,hs1⟩:∃ s1,s1=s:=⟨_,rfl⟩
    obtain⟨a1,ha1⟩:∃ a1:Int,a1=0:=⟨_,rfl⟩
    have hW2:dV h1 s1:=by rw[hh1,hs1];exact hW1
    have ho2:h1.o=false:=by rw[hh1];exact ho
    have hbd3:h1.bd=h.bd:=by rw[hh1]
    have hc3:h1.c=h.c:=by rw[hh1]
    refine aM (H':=dB bh h1::az h.bd s1::Fr) (fun w hh=>by rw[hh1,hs1];exact sl (h:={h with X:=none}) (bs:=bs) (bt:=bt) (x:=x) ho aa ((hh.dp [0,4]).pk [0,1,1])) (aq (ac (iy fun bs2 bt2 x2=>(aU [0,3] (aM (H':=cz bh bs2 bt2 x2 h1::az h1.bd s1::_) (fun w hh=>by rw[hbd3];exact hh) ?_)))))
    have hbk2:=dA (s:=s1) hW2.c hW2.u
    have hbu2:0≤(h1.blk s1).used∧(h1.blk s1).used≤h1.c.space:=hbk2.used
    have hs3:=hW2.c.s2
    refine ab (kPm aa aa (aI aa (ar call81 aa) (gi B _ bh bs2 bt2 x2 h1 s1 hW2.c hW2.u) .free aa aa ?_))
    rintro _ _ ⟨sv,hsv,rfl,rfl⟩
    refine cx fun qb cb hqb hqbi=> ?_
    subst hqb
    refine kPb (aE zeroValue151 aa) aa fun b6=> ?_
    refine kPs (ay (vs:=_) sizeOf151 aa aa aa (by first | rfl | exact eC (by assumption)) rfl) rfl ?_;refine ad ?_;refine ac ?_;refine ac ?_;refine aM (H':=row b6 [i64 (h1.blk s1).act,i64 (h1.blk s1).used,.slice qb (h1.blk s1).rts.length cb] 151::_) (fun w hh=>hh) ?_;refine cL Tryz.mixed (by kernel_rfl) (by kernel_rfl) ?_;refine kQm aa aa ?_;refine kQm aa aa ?_
    refine kQv (aJ aa) aa (kQv (aF (m:=_) dS aa aa) aa (kQv (aF (m:=_) eQ aa aa) aa (kQv (ai isAgg3 aa aa) aa (kQv (aF (m:=_) dz aa aa) aa (kQv (ai isAgg3 aa aa) aa (kQv (eV aa aa) aa (kQv (am aa aa aa) aa (bU (ao [46,6,4,0] rfl ?_)))))))))
    refine ba aa (fun h46=> ?_) (fun h46=> ?_)
    ·have hr2:h.c.space - (h1.blk s1).used<room:=by rw[←hc3];simpa using h46
     refine ac (ab (kPa aa aa (ad (aB ?_))))
     exact aw results46 aa (fun w hw=>⟨_,⟨4,h1,s1,.inr (.inr ⟨ho,hr0,a1,h1,s1,.inr ⟨hroom,ha1,hh1,hs1⟩,.inr (.inl ⟨ha1,hr2,rfl,rfl,rfl⟩)⟩),rfl,rfl⟩,by
   have h9:=dW (h:=h1) (bs:=bs2) (bt:=bt2) (x:=x2) ((hw.dp [0,0]).pk [0,1,1,1])
   rw[hbd3] at h9;exact h9⟩)
    ·have hr2:¬ h.c.space - (h1.blk s1).used<room:=by rw[←hc3];simpa using h46
     refine aU [4] (aM (H':=fa bs2 h1.S::_) (fun w hh=>by rw[ho2] at hh;exact hh) (aq (ac (cQ 10 Tryz.mixed (by kernel_rfl) (by kernel_rfl) ?_))))
     refine kQm aa aa (kQv (aJ aa) aa (kQv (aF (m:=_) dH aa aa) aa (kQv (ai isAgg146 aa aa) aa (kQm aa aa (kQv (aJ aa) aa (kQv (aF (m:=_) dS aa aa) aa (kQv (ah isAgg134 sizeOf134 aa aa) aa ?_)))))))
     refine kQv (ah isAgg151 sizeOf151 aa aa) aa ?_
     refine bC aa (ar call84 aa) (sD _ _ h1.c hW2.c (h1.blk s1) (.slice qb (h1.blk s1).rts.length cb) hbk2 aa) .free aa ?_
     refine bU (dM aa (ar call83 aa) (jb B _ bs2 h1.S _ _) .free aa aa ?_)
     refine kPa aa aa (ad (ao [4] rfl (aB ?_)))
     exact aw results46 aa (fun w hw=>⟨_,⟨0,h1.opened s1,s1,.inr (.inr ⟨ho,hr0,a1,h1,s1,.inr ⟨hroom,ha1,hh1,hs1⟩,.inr (.inr ⟨ha1,hr2,rfl,rfl,rfl⟩)⟩),rfl,rfl⟩,by
   have h9:=pN rfl (h:=h1.opened s1) (bs:=bs2) (bt:=bt2) (x:=x2) ((hw.dp [1,1]).pk [1,0,1,1])
   rw[hbd3] at h9;exact h9⟩)
theorem Ar{B:World}{n:Nat}{D:List Deferred}{σ:Env}{b:Nat}{o:Bool}{S:bz}{Fr:List HP}{K:Act→World→Prop}(h:∀ bl o1 o2 M,(∀ Fr w,Holds B (cZ b bl S o o1 o2::cO bl S.L::M::Fr) w→Holds B (mG o b S::Fr) w)→GO B n D σ (cZ b bl S o o1 o2::cO bl S.L::M::Fr) K):GO B n D σ (mG o b S::Fr) K:=by
 cases o
 ·refine kr fun bl o1 o2=> ?_
  refine aM (fun w hh=>(hh.unpr (p:=True) trivial).back 2 (by simp)) (h bl o1 o2 (pr True) fun Fr w hh=> ?_)
  exact dL ((hh.front 2 aa).pr.2)
 ·refine lq fun bl o1 o2=> ?_
  refine aM (H':=cZ b bl S true (some o1) (some o2)::cO bl S.L::grp [bi .i64 bS o1 S.seen,bi .i64 bS o2 S.dirty]::Fr) (fun w hh=> ?_) (h bl _ _ _ fun Fr w hh=> ?_)
  ·exact(Holds.ungrp (l:=[bi .i64 bS o1 S.seen,bi .i64 bS o2 S.dirty]) ((hh.front 2 aa).front 3 aa |>.front 1 aa)).back 2 (by simp)
  ·exact eX ((((hh.front 2 aa).grp).front 2 aa).front 3 aa |>.front 1 aa)
structure Bk where
 used:Int
 reached:Int
 handles:Int
 records:Int
 open_:Bool
def HpS.stats(h:HpS)(s:Dev):Bk:=⟨(h.blk s).used,s.reachSize h.c (h.blk s) (h.words++(h.blk s).rts),h.T.at_.length,h.S.L.n,h.o⟩
abbrev A7(x:Bk):Value:= .agg #[i64 x.used,i64 x.reached,i64 x.handles,i64 x.records,.bool x.open_]
theorem wr(B:World)(Fr:List HP)(bs bl:Nat)(S:bz)(o:Bool)(o1 o2:Option Nat):
 ∀ w,Holds B (cZ bs bl S o o1 o2::Fr) w→Calls Tryz.prog 80 [ptr bs].toArray w (aZ B (cZ bs bl S o o1 o2::Fr) (.bool o)):=by
 refine ap func80 aa ntmps80 aa (ac (ab (kPa aa aa (ad (ac (ab (kPf dG isAgg4 aa aa aa aa (kPa aa aa (ad (aB ?_))))))))))
 exact aw results80 aa (fun w hw=>⟨rfl,hw⟩)
theorem pI(B:World)(Fr:List HP)(bh:Nat)(h:HpS)(s:Dev)(hW:dV h s):
 ∀ w,Holds B (dB bh h::az h.bd s::Fr) w→Calls Tryz.prog 50 [ptr bh].toArray w (aZ B (dB bh h::az h.bd s::Fr) (A7 (h.stats s))):=by
 refine ap func50 aa ntmps50 aa (iy fun bs bt x=>(aU [1] (Ar fun bl o1 o2 M hM=>(aU [3] ?_))))
 have hbk:=dA (s:=s) hW.c hW.u
 have hbl:(h.blk s).rts.length≤16:=fy (s:=s) hW.c
 obtain⟨hwb,hwl⟩:=HpS.words_b hW
 have hwb2:∀ v∈h.words++(h.blk s).rts,0≤v∧v<18446744073709551616:=fun v hv=>(List.mem_append.1 hv).elim (hwb v) (fx hW.u v)
 refine ac (ab (kPb (aE zeroValue106 aa) aa fun b2=>(ad (ac (ab (kPm aa aa (aU [1,6] (aI aa (ar call81 aa) (gi B _ bh bs bt x h s hW.c hW.u) .free aa aa ?_))))))))
 rintro _ _ ⟨sv,hsv,rfl,rfl⟩
 refine cx fun qb cb hqb hqbi=> ?_
 subst hqb
 refine kPb (aE zeroValue151 aa) aa fun b3=> ?_
 refine kPs (ay (vs:=_) sizeOf151 aa aa aa (by first | rfl | exact eC (by assumption)) rfl) rfl ?_;refine ad ?_;refine ac ?_;refine aM (H':=row b3 [i64 (h.blk s).act,i64 (h.blk s).used,.slice qb (h.blk s).rts.length cb] 151::_) (fun w hh=>hh) ?_
 refine cM [0,1,2,3,4,5,6,7,8,9,10,11,14,15,16,17,20,21,22,23,24,25,26,28,29,30,31,12,13,18,19,27,32,33,34] [12,13,18,27,32,34] [0,1,2,3,4,5,6,7,8,9,10,14,15,16,17,20,21,22,23,24,25,26,28,29,30,31,19] [12,13,18,27,32] [cz bh bs bt x h,row b3 [i64 (h.blk s).act,i64 (h.blk s).used,.slice qb (h.blk s).rts.length cb] 151,cZ bs bl h.S h.o o1 o2] Tryz.mixed (by kernel_rfl) ?_
 refine an aa aa aa (aF (m:=_) dz aa aa) .free aa (an aa aa aa (ai isAgg3 aa aa) .free aa (an aa aa aa (ak aa) .free aa (an aa aa aa (aJ aa) .free aa (an aa aa aa (aF (m:=_) hO aa aa) .free aa (an aa aa aa (ai isAgg90 aa aa) .free aa (an aa aa aa (ak aa) .free aa (an aa aa aa (aJ aa) .free aa (an aa aa aa (aF (m:=_) dS aa aa) .free aa (an aa aa aa (ah isAgg134 sizeOf134 aa aa) .free aa ?_)))))))))
 refine an aa aa aa (ah isAgg151 sizeOf151 aa aa) .free aa ?_
 refine aV aa aa aa (ak aa) .free aa (an aa aa aa (ak aa) .free aa (an aa aa aa (aJ aa) .free aa (an aa aa aa (aF (m:=_) iO aa aa) .free aa (an aa aa aa (ai isAgg130 aa aa) .free aa (an aa aa aa (ak aa) .free aa (an aa aa aa (aJ aa) .free aa (an aa aa aa (aF (m:=_) dH aa aa) .free aa (an aa aa aa (ai isAgg146 aa aa) .free aa (an aa aa aa (aJ aa) .free aa (an aa aa aa (aF (m:=_) hG aa aa) .free aa (an aa aa aa (ai isAgg168 aa aa) .free aa ?_)))))))))))
 refine an aa aa aa (ak aa) .free aa (an aa aa aa (aJ aa) .free aa (an aa aa aa (aF (m:=_) dH aa aa) .free aa (an aa aa aa (ai isAgg146 aa aa) .free aa (aR aa aa (aU [2,7,2] (aI aa (ar call91 aa) (Ap B _ bh bs bt x h s hW) .free aa aa ?_))))))
 rintro av _ ⟨hav,rfl⟩
 refine cx fun qa ca hqa hqai=> ?_
 subst hqa
 refine ad (cK (aU [3] (aR aa aa (ax aa (ar call90 aa) (m8 B _ h.bd h.c hW.c (h.blk s) (.slice qb (h.blk s).rts.length cb) hbk aa s qa ca (h.words++(h.blk s).rts) hwb2 (by simp;omega) hqai (cH (1 - 1) aa)) .free aa aa ?_))))
 refine ad (cK (aR aa aa (aU [3] (aI aa (ar call92 aa) (mt B _ bt h.T (by have:=hW.tl;omega)) .free aa aa ?_))))
 rintro rv _ rfl
 refine aM (fun w hh=>tx hh) (cx fun qn cn hqn hqi=> ?_)
 subst hqn
 refine ad (cK (an aa aa aa (bH aa runUnderlying166 ⟨_,rfl⟩ rfl) .free aa (aR aa aa (ax aa (ar call93 aa) (bF (q:=cO) (fun Fr=>vk _ Fr bl h.S.L)) .free aa aa ?_))))
 refine ad (cK (aU [8] (aR aa aa (ax aa (ar call80 aa) (wr B _ bs bl h.S h.o o1 o2) .free aa aa ?_))))
 refine ad (cK (aV aa aa aa (aP aa (lJ _ _ _ _ _ aa aa aa aa aa)) .free aa (aR aa aa (kPs (ay (vs:=_) sizeOf106 aa aa aa aa aa) aa (ad (cU aa (cC (ao [2] rfl (aB ?_)))))))))
 exact pv results50 (.cellA aa isAgg106 sizeOf106 aa aa) (fun w hw=>⟨by simp[HpS.stats,bT];rfl,dW (bs:=bs) (bt:=bt) (x:=x) ((hM _ _ ((hw.dp [1,3,4,4,4]).pk [0,3,3,2,0,1])).front 1 aa)⟩)
end Go.Proofs.YtoakdoeajpjgkaaGreatDoor
