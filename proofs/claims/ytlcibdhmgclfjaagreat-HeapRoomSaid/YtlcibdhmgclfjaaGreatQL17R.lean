/- The law HeapRoom. Conditions: none. -/
import Derived.Test.YtlcibdhmgclfjaaGreatQL17Rs
open Go.Proofs.Tryz
set_option linter.unusedSimpArgs false
set_option linter.unusedVariables false
set_option linter.unnecessarySimpa false
set_option linter.unusedSectionVars false
namespace Go.Proofs.YtlcibdhmgclfjaaGreat
set_option linter.unusedSimpArgs false
set_option linter.unusedVariables false
open Go
theorem wT{c:Cfg}{N bd:Nat}{h:HpS}{s:Dev}{M:Md}{K:Nat}(S:Sim c N bd h s M K)(ho:M.o=false){n:Int}(hn:0≤n):
 ((M.begin n).1=0∧(M.size+n≤c.space∨M.used+n≤c.space)∧(M.begin n).2.used+n≤c.space∧∀ w,w+1=n→0≤w→w≤64→(M.begin n).2.allocE w 0=0)∨((M.begin n).1=4∧¬ (M.size+n≤c.space∨M.used+n≤c.space)∧(M.begin n).2.used=M.size):=by
 obtain⟨hc,_,_,_,_,hcc,_⟩:=S.facts
 obtain rfl:=hcc
 have hl:=hc.l1
 have hr:=hc.r1
 have key:∀ (u:Int),u+n≤M.c.space→∀ w,w+1=n→0≤w→w≤64→({M with left:= -1,used:=u,o:=true,seen:=[],fresh:=[],undo:=[]}:Md).allocE w 0=0:=fun u hu w hw h0 h1=>by
  unfold Md.allocE
  rw[if_neg (by simp),if_neg (by omega),if_neg (by simp only;omega)]
  unfold Md.note
  rw[if_neg (by simp),if_neg (by simp only[List.length_nil];omega)]
 unfold Md.begin
 rw[if_neg (by rw[ho];decide),if_neg (by omega)]
 by_cases h1:M.c.space - M.used<n
 ·rw[if_pos h1]
  by_cases h2:M.c.space - M.size<n
  ·rw[if_pos h2]
   exact .inr ⟨rfl,by omega,rfl⟩
  ·rw[if_neg h2]
   exact .inl ⟨rfl,.inl (by omega),by simp only;omega,key _ (by omega)⟩
 ·rw[if_neg h1]
  exact .inl ⟨rfl,.inr (by omega),by simp only;omega,key _ (by omega)⟩
theorem vG(B:World)(Fr:List HP)[ls Fr B](x0 x1 x2:Int)(hx:0≤x0∧0≤x1∧0≤x2)(qa:Option Addr)(len capa:Nat)(A:Nat→DoW)(hlen0:len≤9223372036854775807)(ha:xW B qa len 5 (fun i=>doE (A i)))(rm:Int)(hrm:0≤rm∧rm≤65535):
 ∀ w,Holds B Fr w→Calls Tryz.prog 5 [.agg #[u16 x0,u16 x1,u16 x2],.slice qa len capa,u16 rm].toArray w (bB B Fr (.bool true)):=by
 refine au func5 aa ntmps5 aa ?_
 obtain⟨c,hcm⟩:∃ c,c=mkC x0 x1 x2:=⟨_,rfl⟩
 have hc:bC c:=by rw[hcm];exact vq hx.1 hx.2.1 hx.2.2
 have hs1:=hc.s1
 have hs2:=hc.s2
 refine ac (ab (aC aa (bx aa) .free aa aa ?_))
 rintro _ _ ⟨b3,rfl,rfl⟩
 refine kPa aa aa (ad (ac (ac (ab (aE aa (aA call9 aa) (xH _ _) .free aa aa ?_)))))
 refine kPv (bF aa) aa (ad (cf aa (rfl) (ay (ac (ac (ab (kPm aa aa (kPv (bY aa runUnderlying66 ⟨_,rfl⟩ rfl) aa (kPv (an aa aa aa) aa (ad ?_))))))))))
 refine aW aa (fun h22=> ?_) (fun h22=> ?_)
 ·skip
  refine ac (ab (kPa aa aa (ad (az ?_))))
  exact ax results5 aa (fun w hh=>⟨rfl,(hh.dp [0])⟩)
 ·have hlen8:len≤80:=by simp at h22;omega
  refine ay (ac (ab (kPv (am isAgg24 sizeOf24 aa aa) aa ?_)))
  refine aQ aa (aA call10 aa) (sU B _ x0 x1 x2 hx c hcm) .free aa aa ?_
  rintro _ _ ⟨bd,bh,bm,br,N,s,hN,H0,rfl,rfl⟩
  refine kPm aa aa (kPv (aB aa aa) aa (kPv (aB aa aa) aa (kPv (aB aa aa) aa (kPa aa aa (kPa aa aa (kPa aa aa (ad (ao [9,8,6,1,2] rfl (ac (ac (aJ [2,2] ?_)))))))))))
  refine aK (H':=dI bm (Md.new c)::_) (fun w hh=>CQ hh) (ab (kPm aa aa (kPv (dq runUnderlying29 aa aa aa) aa (ad (cf aa (rfl) (ay (ac (ac (ab (kPm aa aa (kPv (bY aa runUnderlying66 ⟨_,rfl⟩ rfl) aa ?_)))))))))))
  refine kPm aa aa (ad (aO (cR (ι:=Nat×HpS×Dev×Md) [32,31,9,8,6,2] (fun (k,h,s,M)=>(k≤len)∧(Sim c N bd h s M k)) (fun (k,h,s,M)=>[(33,i64 k)]) (fun (k,h,s,M)=>cy bh h::aG bd s::dI bm M::row b3 [u16 x0,u16 x1,u16 x2] 24::Fr) (fun (k,h,s,M)=>len - k) (0,ik bd c s,s,Md.new c) (⟨Nat.zero_le _,Cs hc H0⟩) (fun a w st=>st.to ⟨rfl,trivial⟩ (fun hh=>(hh.pk [1,1]))) ?_)))
  rintro⟨k,h,s,M⟩ ⟨hk0,hS⟩
  try simp only at hk0 hS ⊢
  refine cg (σ':=[(33,i64 k),(32,_),(31,_),(9,_),(8,_),(6,_),(2,_)]) (aF aa) (ac (ab (kPv (an aa aa aa) aa (ad (ac ?_)))))
  refine aW aa (fun h34=> ?_) (fun h34=> ?_)
  ·have hk:k<len:=by simpa using h34
   refine ay (ac (aO (ac (ab ?_))))
   obtain⟨bq,oq,rfl,hz,hqa⟩:=ha.cell k hk
   refine kPv (tE runUnderlying66 sizeOf68 aa aa (by omega) (by omega) aa) aa (kPv (zV (cs:=doE (A k)) isAgg68 sizeOf68 aa aa (fun j hj=>by rw[Int.toNat_natCast,Nat.add_assoc];exact hqa j hj)) aa (aC aa (aN zeroValue68 aa) .free aa aa ?_))
   rintro _ _ ⟨b11,rfl,rfl⟩
   refine aD aa (aI (vs:=_) sizeOf68 aa aa aa aa aa) .free aa ?_
   rintro _ _ rfl
   refine ad (ab (kPm aa aa (kPm aa aa (kPv (am isAgg68 sizeOf68 aa aa) aa ?_))))
   refine aJ [1,1,1] (aQ aa (aA call28 aa) (doS hS (by omega) (A k)) .free aa aa ?_)
   rintro _ _ ⟨h1,s1,M1,hS1,rfl,rfl⟩
   refine ad (ao [33,32,31,9,8,6,2] rfl (ab (kPv (aS aa aa) aa (kPm aa aa (ad ?_)))))
   exact fun a w st_=>⟨(k+1,h1,s1,M1),⟨by first | omega | (simp only;omega),hS1⟩,by first | omega | (simp only;omega),st_.to (aF aa) (fun hh=>(hh.dp [3]))⟩
  ·have hk:¬ k<len:=by simpa using h34
   refine bT (ac ?_)
   refine oJ (ι:=HpS×Dev×Md) [9,8,6,2] (fun (h2,s2,M2)=>(Sim c N bd h2 s2 M2 k)∧(M2.o=false)) (fun (h2,s2,M2)=>[(50,.bool false)]) (fun (h2,s2,M2)=>cy bh h2::aG bd s2::dI bm M::row b3 [u16 x0,u16 x1,u16 x2] 24::Fr) ?_ ?_
   ·skip
    rcases Bool.eq_false_or_eq_true (M.o) with hmo | hmo
    ·skip
     obtain⟨h1,s1,he1,hS1⟩:=hS.commit hmo
     refine aJ [2] (fC fun rv hv sv fv uv=>(ab (kPm aa aa (kPv (ak aa) aa (kPv (aj (m:=_) ew aa aa) aa (kPv (ae isAgg4 aa aa) aa (kPm aa aa (aq aa (ap aa) (.on aa aa (ah hmo)) aa aa (aJ [8,8] (cL aa (aA call15 aa) (yZ hS.facts.2.1 hS.facts.2.2.1 he1) (.on aa aa (ah hmo)) aa aa ?_))))))))))
     refine aq aa (an aa aa aa) (.on aa aa (ah hmo)) aa aa (kPv (aH aa hmo aa) aa (ad (ao [50,9,8,6,2] rfl (aJ [2,2,2,2,2,2,2,2] (aK (H':=dI bm M::_) (fun w hh=>bj hh) ?_)))))
     exact fun a w st_=>⟨(h1,s1,M.commit.2),⟨hS1,by unfold Md.commit;rw[if_pos hmo]⟩,st_.to (aF aa) (fun hh=>(hh.pk [1,1]))⟩
    ·skip
     refine aJ [2] (fC fun rv hv sv fv uv=>(ab (kPm aa aa (kPv (ak aa) aa (kPv (aj (m:=_) ew aa aa) aa (kPv (ae isAgg4 aa aa) aa (kPm aa aa (ar aa (.on aa aa (ai hmo)) aa (ar aa (.on aa aa (ai hmo)) aa (ar aa (.on aa aa (ai hmo)) aa (kPv (aL aa hmo aa) aa ?_)))))))))))
     refine ad (ao [50,9,8,6,2] rfl (aK (H':=dI bm M::_) (fun w hh=>bj hh) ?_))
     exact fun a w st_=>⟨(h,s,M),⟨hS,hmo⟩,st_.to (aF aa) (fun hh=>(hh.pk [1,1]))⟩
   rintro⟨h2,s2,M2⟩ ⟨hS2,ho2⟩
   try simp only at hS2 ho2 ⊢
   refine cg (σ':=[(50,.bool false),(9,_),(8,_),(6,_),(2,_)]) (aF aa) (cf aa (rfl) (ay (ac (aJ [2] (fC fun rv hv sv fv uv=>(E5 [1,1,1,1,1,1,1] (aJ [1,1] ?_)))))))
   have hcc:=hS.facts.2.2.2.2.2.1
   obtain⟨n,hn⟩:∃ n,n=rm%(c.space+5):=⟨_,rfl⟩
   have hn0:0≤n∧n<c.space+5:=by rw[hn];exact⟨Int.emod_nonneg _ (by omega),Int.emod_lt_of_pos _ (by omega)⟩
   refine ab (kPm aa aa (kPv (bP runUnderlying22 runUnderlying3 aa) aa (kPm aa aa (kPv (ak aa) aa (kPv (aj (m:=_) ge aa aa) aa (kPv (aj (m:=_) dX aa aa) aa (kPv (ae isAgg3 aa aa) aa (kPv (aS aa aa) aa (kPv (im (c:=n) aa aa (by rw[hcc,gh (z:=c.space+5) (by omega)];omega) (by rw[hn,hcc,gh (z:=c.space+5) (by omega)];exact nn _ (by omega))) aa (kPa aa aa (ad ?_)))))))))))
   refine ao [12,9,8,6] rfl (ac (ab (kPm aa aa (aE aa (aA call22 aa) (wJ hS2) .free aa aa ?_))))
   refine aC aa (aN zeroValue58 aa) .free aa aa ?_
   rintro _ _ ⟨b13,rfl,rfl⟩
   refine aD aa (aI (vs:=_) sizeOf58 aa aa aa aa aa) .free aa ?_
   rintro _ _ rfl
   refine ad (ac (ab (kPm aa aa (kPm aa aa (aJ [1,1] (aQ aa (aA call11 aa) (EK hS2 (by omega) n) .free aa aa ?_))))))
   rintro _ _ ⟨h3,s3,hS3,rfl,rfl⟩
   have hrb:=wT hS2 ho2 hn0.1
   have hu2:=hS2.facts.2.2.2.2.1.us
   have hz2:=hS2.facts.2.2.2.2.1.size_b
   have hu3:=hS3.facts.2.2.2.2.1.us
   have h89:(((M2.begin n).1==0) !=(decide (IntKind.i64.wrap (M2.size+n)≤M.c.space)||decide (IntKind.i64.wrap (M2.used+n)≤M.c.space)))=false:=by
    rw[gh (z:=M2.size+n) (by omega),gh (z:=M2.used+n) (by omega),hcc]
    rcases hrb with ⟨h1,h2,_⟩ | ⟨h1,h2,_⟩
    ·rw[h1];simp;omega
    ·rw[h1];simp;omega
   refine kPa aa aa (ad (ac (ac (cM [0,1,2,3,4,5,6,7,8,9,10,11,12,13,14,15,16,17,18,19,20,21,22,23,24] [] [] [] [row b13 [i64 M2.used,i64 M2.size,i64 M2.live,i64 M2.seen.length,.bool M2.o] 58,cx bm M rv hv sv fv uv] Tryz.mixed (by kernel_rfl) ?_))))
   refine aT aa aa aa (ap aa) .free aa (aT aa aa aa (an aa aa aa) .free aa (aT aa aa aa (aj (m:=_) uo aa aa) .free aa (aT aa aa aa (ae isAgg3 aa aa) .free aa (aT aa aa aa (ap aa) .free aa (aT aa aa aa (aS aa aa) .free aa (aT aa aa aa (ap aa) .free aa (aT aa aa aa (ak aa) .free aa (aT aa aa aa (aj (m:=_) ge aa aa) .free aa (aT aa aa aa (aj (m:=_) dX aa aa) .free aa (aT aa aa aa (ae isAgg3 aa aa) .free aa (aT aa aa aa (an aa aa aa) .free aa ?_)))))))))))
   refine aT aa aa aa (ap aa) .free aa ?_
   apply Fg (tp:=88) (t:=77) (σ1:=[(77,_),(66,_),(14,_),(13,_),(12,_),(9,_),(8,_),(6,_)]) 11 rfl (aF rfl)
   ·intro hg1
    refine aT aa aa aa (aj (m:=_) uq aa aa) (.on aa aa (ah hg1)) aa (aT aa aa aa (ae isAgg3 aa aa) (.on aa aa (ah hg1)) aa (aT aa aa aa (ap aa) (.on aa aa (ah hg1)) aa (aT aa aa aa (aS aa aa) (.on aa aa (ah hg1)) aa (aT aa aa aa (ap aa) (.on aa aa (ah hg1)) aa (aT aa aa aa (ak aa) (.on aa aa (ah hg1)) aa (aT aa aa aa (aj (m:=_) ge aa aa) (.on aa aa (ah hg1)) aa (aT aa aa aa (aj (m:=_) dX aa aa) (.on aa aa (ah hg1)) aa (aT aa aa aa (ae isAgg3 aa aa) (.on aa aa (ah hg1)) aa (aT aa aa aa (an aa aa aa) (.on aa aa (ah hg1)) aa (aT aa aa aa (aL aa hg1 aa) .free aa ?_))))))))))
    exact DE aa (aF aa) (eZ hg1)
   ·intro hg1
    refine jU aa aa aa (.on aa aa (ai hg1)) aa (jU aa aa aa (.on aa aa (ai hg1)) aa (jU aa aa aa (.on aa aa (ai hg1)) aa (jU aa aa aa (.on aa aa (ai hg1)) aa (jU aa aa aa (.on aa aa (ai hg1)) aa (jU aa aa aa (.on aa aa (ai hg1)) aa (jU aa aa aa (.on aa aa (ai hg1)) aa (jU aa aa aa (.on aa aa (ai hg1)) aa (jU aa aa aa (.on aa aa (ai hg1)) aa (jU aa aa aa (.on aa aa (ai hg1)) aa (aT aa aa aa (aH aa hg1 aa) .free aa ?_))))))))))
    exact DE aa (aF aa) (eY hg1)
   refine aT aa aa aa (rN runUnderlying4 aa aa aa) .free aa (cJ (cf aa (h89) (ay (ac (ac (ab (kPm aa aa (kPv (an aa aa aa) aa (ad ?_)))))))))
   refine aW aa (fun h91=> ?_) (fun h91=> ?_)
   ·have hne:¬ (M2.begin n).1=0:=by simpa using h91
    have hr4:=hrb.resolve_left fun h=>hne h.1
    refine ac (cK Tryz.mixed (by kernel_rfl) (by kernel_rfl) ?_)
    refine kQm aa aa (kQv (an aa aa aa) aa (kQm aa aa (bA aa (ap aa) (.on aa aa (ah (by rw[hr4.1];rfl))) aa (bH aa (aA call22 aa) (wJ hS3) (.on aa aa (ah (by rw[hr4.1];rfl))) aa ?_))))
    refine bA aa (io runUnderlying58 (t:=3) (off:=0) aa isAgg3 aa aa) (.on aa aa (ah (by rw[hr4.1];rfl))) aa (bA aa (aj (m:=_) uo aa aa) (.on aa aa (ah (by rw[hr4.1];rfl))) aa (bA aa (ae isAgg3 aa aa) (.on aa aa (ah (by rw[hr4.1];rfl))) aa (bA aa (an aa aa aa) (.on aa aa (ah (by rw[hr4.1];rfl))) aa (kQv (aH aa (by rw[hr4.1];rfl) aa) aa (kQa aa aa (bR (ao [6,12,9,8] rfl (az ?_))))))))
    exact ax results5 aa (fun w hh=>⟨by rw[show((M2.begin n).2.used==M2.size)=true by simp[hr4.2.2]],(hh.dp [0,0,0,0,0])⟩)
   ·have he0:(M2.begin n).1=0:=by simpa using h91
    have hr0:=hrb.resolve_right fun h=>by rw[h.1] at he0;exact absurd he0 (by decide)
    refine ay (ac (ab (kPm aa aa (aE aa (aA call22 aa) (wJ hS3) .free aa aa ?_))))
    refine aC aa (aN zeroValue58 aa) .free aa aa ?_
    rintro _ _ ⟨b15,rfl,rfl⟩
    refine aD aa (aI (vs:=_) sizeOf58 aa aa aa aa aa) .free aa ?_
    rintro _ _ rfl
    refine ad (ao [15,12,9,8,6] rfl (ac (ac (cK Tryz.mixed (by kernel_rfl) (by kernel_rfl) ?_))))
    refine kQv (aj (m:=_) uq aa aa) aa (kQv (ae isAgg3 aa aa) aa (kQm aa aa (kQv (aS aa aa) aa (kQm aa aa (kQv (ak aa) aa (kQv (aj (m:=_) ge aa aa) aa (kQv (aj (m:=_) dX aa aa) aa (kQv (ae isAgg3 aa aa) aa (kQv (an aa aa aa) aa (bR (ao [113,12,8,6] rfl ?_)))))))))))
    refine cf aa ((by show decide (IntKind.i64.wrap ((M2.begin n).2.used+n)>M.c.space)=false;rw[gh (z:=(M2.begin n).2.used+n) (by omega),hcc];simp;omega)) (ay (ac (ac (ab (kPm aa aa (kPv (an aa aa aa) aa (kPm aa aa ?_)))))))
    apply dr (tp:=119) (t:=116) (σ1:=[(116,_),(12,_),(8,_),(6,_)]) 3 rfl (aF rfl)
    ·intro hg2
     refine aq aa (ap aa) (.on aa aa (ah hg2)) aa aa (aq aa (an aa aa aa) (.on aa aa (ah hg2)) aa aa (kPv (aH aa hg2 aa) aa ?_))
     exact ba aa (aF aa) (cV hg2)
    ·intro hg2
     refine ar aa (.on aa aa (ai hg2)) aa (ar aa (.on aa aa (ai hg2)) aa (kPv (aL aa hg2 aa) aa ?_))
     exact ba aa (aF aa) (cW hg2)
    refine ad ?_
    refine aW aa (fun h119=> ?_) (fun h119=> ?_)
    ·have hn1:0<n∧n≤65:=by simpa using h119
     obtain⟨p4,h4,s4,e4⟩:=hS3.alloc (by omega) (hr0.2.2.2 (n - 1) (by omega) (by omega) (by omega))
     refine ac (ab (kPm aa aa (kPm aa aa (kPv (cU aa aa) aa (kPv (aZ aa (rV _ aa)) aa (aJ [1,1] (cL aa (aA call12 aa) (Cc hS3.facts.2.1 hS3.facts.2.2.1 e4) .free aa aa ?_)))))))
     refine kPm aa aa (kPv (aB aa aa) aa (kPv (aB aa aa) aa (kPa aa aa (kPa aa aa (ad (ao [17,6] rfl (ac (ab (kPm aa aa (kPv (an aa aa aa) aa (kPa aa aa ?_)))))))))))
     refine ad (az ?_)
     exact ax results5 aa (fun w hh=>⟨rfl,(hh.dp [0,0,0,0,0,0])⟩)
    ·skip
     refine ay (ac (ab (kPa aa aa (ad (az ?_)))))
     exact ax results5 aa (fun w hh=>⟨rfl,(hh.dp [0,0,0,0,0,0])⟩)
theorem sy(W:World)(z:Int×Int×Int)(w0:(Lit.int .u16 z.1).wf=true∧(Lit.int .u16 z.2.1).wf=true∧(Lit.int .u16 z.2.2).wf=true){la:Option Addr}{lena capa:Nat}{f:Nat→DoW}(w2:lena≤9223372036854775807∧xW W la lena 5 (fun i=>doE (f i)))(rm:Int)(wf:(Lit.int .u16 rm).wf=true):
 Calls Tryz.prog 5 #[.agg #[u16 z.1,u16 z.2.1,u16 z.2.2],.slice la lena capa,.int .u16 rm] W fun e w'=>e= .returned (.bool true)∧RowKit.Below W.heap.size W w':=by
 have b0:=bounds_u16 w0.1
 have b1:=bounds_u16 w0.2.1
 have b2:=bounds_u16 w0.2.2
 have b3:=bounds_u16 wf
 exact Eo (vG W [old W] z.1 z.2.1 z.2.2 ⟨by omega,by omega,by omega⟩ la lena capa f w2.1 w2.2 rm b3)
namespace heapRoom
open Go.ChangeShapes Go.WideShapes Go.ChangeAt Go.RowKit
set_option maxRecDepth 100000 in
theorem En(os:Os)(started:os.Started)(H:Type)(enc:TypeId×Value→H):
 ReturnsInHanded {} Tryz.checked os 5 .any (Rows.heapRoomSpec.pre6 enc Tryz.prog Tryz.f5 Rows.heapRoomRow.domain false) (Rows.heapRoomSpec.post enc Tryz.prog Tryz.f5 false true false false):=by
 refine returnsInHanded_of_change (C:=Tryz.checked) Tryz.ownKnobs started (by kernel_rfl) func5
  (ChangeSpec.witness6 (enc:=enc) (C:=Tryz.checked) false ⟨#[], #[.agg #[.int .u16 0,.int .u16 0,.int .u16 0],.slice none 0 0,.int .u16 0],[]⟩ 8 (by kernel_rfl) (by kernel_rfl) (by kernel_rfl) (by kernel_rfl)) ?_
 intro W base args ds gs before hval0 hW hcnd _
 have hval:∀ (j:Nat) t v,Tryz.f5.params[j]? =some t→args[j]? =some v→Value.okWide Tryz.prog W .any base t v:=hval0
 have hW':=hW
 obtain⟨p,q,hA0,hV,rfl,hfz,hnd⟩:=hW
 have hA:DataW.TrodAll enc Tryz.prog W 0 (fun _=>true) true Tryz.f5.params.toList args.toList ds p:=hA0
 rw[Tryz.params5] at hA hval
 obtain⟨v0,vs0,d0,ds0,p0,q0,hargs,rfl,rfl,h0,r0⟩:=trodAll_cons hA
 obtain⟨v1,vs1,d1,ds1,p1,q1,rfl,rfl,rfl,h1,r1⟩:=trodAll_cons r0
 obtain⟨v2,vs2,d2,ds2,p2,q2,rfl,rfl,rfl,h2,r2⟩:=trodAll_cons r1
 obtain⟨rfl,rfl,rfl⟩:=trodAll_nil r2
 obtain rfl:args= #[v0,v1,v2]:=by cases args;simp_all
 obtain⟨rfl,rfl⟩:=trodVars_none hV
 have k0:=h0
 have lt0:∀ x∈p0,x.block<W.heap.size:=by obtain⟨m,hm⟩:=k0;exact DataW.trod_lt m _ _ _ hm
 obtain⟨z0,rfl,w0⟩:=mY (hval 0 24 v0 rfl rfl) h0
 obtain⟨a1,len1,cap1,rfl⟩:=okWide_slice underlying66 (hval 1 66 v1 rfl rfl)
 have k1:=h1
 have lt1:∀ x∈p1,x.block<W.heap.size:=by obtain⟨m,hm⟩:=k1;exact DataW.trod_lt m _ _ _ hm
 obtain⟨z1,w1⟩:=jy h1
 have k2:=h2
 have lt2:∀ x∈p2,x.block<W.heap.size:=by obtain⟨m,hm⟩:=k2;exact DataW.trod_lt m _ _ _ hm
 obtain⟨a2,rfl,w2⟩:∃ a,v2= .int .u16 a∧(Lit.int .u16 a).wf=true:=by
  obtain⟨a,e,_,_,wa⟩:=open_int underlying22 (hval 2 22 v2 rfl rfl) h2
  exact⟨a,e,wa⟩
 clear hA0 hval0
 refine(sy W z0 w0 w1 a2 w2).mono fun e W' ⟨he,bel⟩=> ?_
 subst he
 exact⟨_,rfl,_,_,_,[],_,[],hW',trodAll_mk1 (shut_bool underlying4 _),(trodAll_cons_mk (Below.trod Tryz.laidOut (by kernel_rfl) (of_decide_eq_true (by kernel_rfl)) k0 bel lt0) (trodAll_cons_mk (Below.trod Tryz.laidOut (by kernel_rfl) (of_decide_eq_true (by kernel_rfl)) k1 bel lt1) (trodAll_cons_mk (Below.trod Tryz.laidOut (by kernel_rfl) (of_decide_eq_true (by kernel_rfl)) k2 bel lt2) trodAll_mk0))),rfl,bel.frame _,fun h=>by cases h⟩
theorem Fl:Rows.heapRoomRow.holds Tryz.pinned (OpenSpec.ofChange Rows.heapRoomSpec):=
 OpenClaim.holds_of_wide 5 Tryz.f5 rfl rfl rfl rfl rfl rfl rfl ⟨rfl,rfl,rfl,rfl,rfl⟩ rfl rfl rfl rfl rfl (by kernel_rfl) func5 (by kernel_rfl)
  (of_decide_eq_true (by kernel_rfl)) (by unfold Func.isWrapper;first | (rw[if_pos (by decide+kernel)];kernel_rfl) | (rw[if_neg (by decide+kernel)];exact⟨rfl,rfl⟩))
  (fun os started H enc _=>En os started H enc)
theorem proved:Rows.HeapRoomSaid:=Fl
end heapRoom
end Go.Proofs.YtlcibdhmgclfjaaGreat
