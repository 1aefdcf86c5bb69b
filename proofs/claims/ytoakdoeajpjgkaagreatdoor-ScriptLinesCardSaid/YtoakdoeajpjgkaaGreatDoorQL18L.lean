/- ScriptLines. Conditions: none. -/
import Derived.Test.YtoakdoeajpjgkaaGreatDoorQL18Lo
import Derived.Test.YtoakdoeajpjgkaaGreatDoorTie
import Derived.Test.YtoakdoeajpjgkaaGreatDoorCards
import Derived.SevenTiedAt
open Go.Proofs.Tryz
set_option linter.unusedSimpArgs false
set_option linter.unusedVariables false
set_option linter.unnecessarySimpa false
set_option linter.unusedSectionVars false
namespace Go.Proofs.YtoakdoeajpjgkaaGreatDoor
set_option linter.unusedSimpArgs false
set_option linter.unusedVariables false
open Go
def rD(f:Nat→Ln)(i:Nat):List LO:=(List.range i).map fun j=>(da (f j).c,some (f j).c)
def nj(f:Nat→Ln)(i:Nat):List LO:=([35,32,97,32,115,99,114,105,112,116],none)::(List.range i).flatMap fun j=>((f j).t,some (f j).c)::(if (f j).g%7=0 then [([32],none)] else [])
theorem wy(f:Nat→Ln)(i:Nat):(rD f i).filterMap Prod.snd=(List.range i).map (fun j=>(f j).c)∧(nj f i).filterMap Prod.snd=(List.range i).map (fun j=>(f j).c):=by
 unfold rD nj
 rw[List.filterMap_cons]
 simp only
 induction List.range i with
 | nil=>exact⟨rfl,rfl⟩
 | cons a t ih=>
   refine⟨?_,?_⟩
   ·simp only[List.map_cons,List.filterMap_cons];rw[ih.1]
   ·rw[List.flatMap_cons,List.cons_append,List.filterMap_cons,List.filterMap_append,ih.2]
    simp only
    by_cases h:(f a).g%7=0
    ·rw[if_pos h];rfl
    ·rw[if_neg h];rfl
theorem zv(f:Nat→Ln)(i:Nat):cF ((rD f (i+1)).map Prod.fst)=cF ((rD f i).map Prod.fst)++da (f i).c++[10]:=by
 unfold rD
 rw[List.range_succ,List.map_append,List.map_append,jq]
 simp[cF]
theorem Bs(f:Nat→Ln){i:Nat}(h:(f i).g%7=0):cF ((nj f (i+1)).map Prod.fst)=cF ((nj f i).map Prod.fst)++(f i).t++[10]++[32,10]:=by
 unfold nj
 rw[List.range_succ,List.flatMap_append, ←List.cons_append,List.map_append,jq,List.flatMap_singleton,if_pos h]
 simp[cF]
theorem Br(f:Nat→Ln){i:Nat}(h:¬ (f i).g%7=0):cF ((nj f (i+1)).map Prod.fst)=cF ((nj f i).map Prod.fst)++(f i).t++[10]:=by
 unfold nj
 rw[List.range_succ,List.flatMap_append, ←List.cons_append,List.map_append,jq,List.flatMap_singleton,if_neg h]
 simp[cF]
theorem zu(f:Nat→Ln):∀ i,(nj f i).length≤2*i+1:=fun i=>by
 unfold nj
 rw[List.length_cons]
 have:∀ l:List Nat,(l.flatMap fun j=>(((f j).t,some (f j).c):LO)::(if (f j).g%7=0 then [([32],none)] else [])).length≤2*l.length:=fun l=>by
  induction l with
  | nil=>simp
  | cons a t ih=>
    rw[List.flatMap_cons,List.length_append,List.length_cons,List.length_cons]
    split<;>simp only[List.length_cons,List.length_nil]<;>omega
 have h:=this (List.range i)
 rw[List.length_range] at h
 omega
theorem Dc{n:Nat}{f:Nat→Ln}(hf:∀ i,i<n→LnW (f i)):(∀ p∈rD f n,kD p.1 p.2)∧∀ p∈nj f n,kD p.1 p.2:=by
 refine⟨fun p hp=> ?_,fun p hp=> ?_⟩
 ·obtain⟨j,hj,rfl⟩:=List.mem_map.1 hp
  exact zs (Ln.c_w (hf j (List.mem_range.1 hj)))
 ·rcases List.mem_cons.1 hp with rfl | hp
  ·exact⟨by decide,.inl ⟨rfl,rfl⟩⟩
  ·obtain⟨j,hj,h⟩:=List.mem_flatMap.1 hp
   rcases List.mem_cons.1 h with rfl | h
   ·exact Ln.t_ok (hf j (List.mem_range.1 hj))
   ·split at h
    ·rw[List.mem_singleton.1 h];exact⟨by decide,.inl ⟨rfl,rfl⟩⟩
    ·cases h
theorem of(B:World)(Fr:List HP)[cP Fr B](gl:GL B)(fg:FG B)(lf:LF B)(q:Option Addr)(n cap:Nat)(f:Nat→Ln)(hf:∀ i,i<n→LnW (f i))(hr:lA B q n 5 (fun i=>(f i).row)):
 ∀ w,Holds B Fr w→Calls Tryz.prog 3 [.slice q n cap].toArray w (aY B Fr (.bool true)):=by
 refine ao func3 aa ntmps3 aa (ac (ab (kPa aa aa (ad (ac (ac (ab (aw aa (au call11 aa) (vC _ _ gl fg) .free aa aa ?_))))))))
 refine kPv (bz aa) aa (ad (bH aa (rfl) (aq (ac (ac (ab (kPm aa aa (kPv (bD aa runUnderlying22 ⟨_,rfl⟩ rfl) aa (kPv (an aa aa aa) aa (ad ?_))))))))))
 refine a8 aa (fun h21=> ?_) (fun h21=> ?_)
 ·
  refine ac (ab (kPa aa aa (ad (az ?_))))
  exact ar results3 aa (fun w hw=>⟨rfl,hw⟩)
 ·have hn:n≤60:=by simp at h21;omega
  refine aq (ac (ab (kPa aa aa (kPa aa aa (ad (ac (ab (kPa aa aa (ad (ac (ac ?_)))))))))))
  refine aM (fun w hh=>mc hh) (ab (kPm aa aa (kPv (bD aa runUnderlying22 ⟨_,rfl⟩ rfl) aa (kPm aa aa (ad (aG (cK (ι:=Nat×Value×List UInt8×List UInt8) [23,22,2] (fun (i,sv,s,p)=>(i≤n)∧(aL sv=true)∧(s=cF ((nj f i).map Prod.fst))∧(p=cF ((rD f i).map Prod.fst))∧(s.length≤11+123*i)∧(p.length≤71*i)) (fun (i,sv,s,p)=>[(24,i64 i),(5,sv),(3,str s),(4,str p)]) (fun (i,sv,s,p)=>ga 0 (sv,(List.range i).map fun j=>(f j).c)::Fr) (fun (i,sv,s,p)=>n - i) (0,.slice none 0 0,[35,32,97,32,115,99,114,105,112,116,10],[]) (⟨Nat.zero_le _,rfl,rfl,rfl,by decide,Nat.zero_le _⟩) (fun a w st=>st.to (aE aa) (fun hh=>hh)) ?_)))))))
  rintro⟨i,sv,s,p⟩ ⟨hi0,hsv,hs,hp,hsl,hpl⟩
  try simp only at hi0 hsv hs hp hsl hpl ⊢
  refine cu (σ':=[(24,i64 i),(5,sv),(3,str s),(4,str p),(23,_),(22,_),(2,_)]) (aE aa) (ac (ab (kPv (an aa aa aa) aa (ad (ac ?_)))))
  refine a8 aa (fun h25=> ?_) (fun h25=> ?_)
  ·have hi:i<n:=by simp at h25;omega
   obtain⟨bq,oq,rfl,_⟩:=hr.cell i hi
   obtain⟨k1,n1,n2,n3,g1,hfi⟩:=Ln.lit (hf i hi)
   have hcw:=Ln.c_w (hf i hi)
   have hgl:g1≤255:=by have:=(hf i hi).g;rw[hfi] at this;exact this
   have hgg:(f i).g=g1:=by rw[hfi]
   have hll:=qu (c:=(f i).c) (by have:=hcw.len;omega) (fun x hx=>(hcw.b x hx).2)
   have hc3:=hcw.len
   have htl:=Ln.t_len (hf i hi)
   refine aq (ac (aG (ac (ab (kPv (jS (sz:=5) runUnderlying22 sizeOf28 aa aa (by omega) (by omega) aa) aa (kPv (gJ (i:=i) (c:=[.int .u8 k1,w64 n1,w64 n2,w64 n3,.int .u8 g1]) (cap:=cap) isAgg28 sizeOf28 (SlN.arg hr) aa (Be hi hfi)) aa (kPb (aC zeroValue28 aa) aa fun b7=> ?_)))))))
   refine kPs (ax (vs:=_) sizeOf28 aa aa aa (by first | rfl | exact ei (by assumption)) rfl) rfl ?_;refine ad ?_;refine ac ?_;refine ab ?_;refine kPv (ag isAgg28 sizeOf28 aa aa) aa ?_;refine aJ aa (au call12 aa) (zm _ _ gl lf (f i) (hf i hi) hfi) .free aa aa ?_
   rintro _ _ ⟨⟨kd,⟨qk,mk,ck⟩,ns⟩,ht1,ht2,rfl,rfl⟩
   simp only at ht1
   subst ht1
   refine kPm aa aa (kPv (aA aa aa) aa (kPv (aA aa aa) aa (kPv (aA aa aa) aa (kPb (aC zeroValue32 aa) aa fun b8=> ?_))))
   refine kPs (ax (vs:=_) sizeOf32 aa aa aa (by first | rfl | exact ei (by assumption)) rfl) rfl ?_;refine kPa aa aa ?_;refine kPa aa aa ?_;refine ad ?_;refine am [10,9,8,7,24,5,3,4,23,22,2] rfl ?_;refine ac ?_;refine aQ [3] ?_
   refine rN fun rs hrs=>(lR fun q4 cap4 hq4 hqi4=> ?_)
   subst hq4
   have hrl:rs.length=i:=by have:=congrArg List.length hrs.1;simpa using this
   refine ab (kPm aa aa (kPv (ag isAgg32 sizeOf32 aa aa) aa ?_))
   refine kPb (mG na (v:=(kd,(qk,ns.length,ck),ns)) runUnderlying24 sizeOf32 zeroValue32 ⟨⟨by decide,by decide⟩,rfl⟩ rfl aa) aa fun b36=>(aQ [1,0] (cM aa (iy na (ys:=[(kd,(qk,ns.length,ck),ns)]) aa aa runUnderlying24 runUnderlying24 ⟨_,rfl⟩ sizeOf32 zeroValue32 aa Cq aa aa (SlM.row (b:=b36) aa aa) (Nat.succ_pos _) (by simp;omega)) .free aa aa ?_))
   rintro ov2 _ ⟨hov2,rfl⟩
   refine kPm aa aa (kPm aa aa ?_)
   refine al aa (dG aa aa (by first | omega | (simp only[List.length_append,List.length_cons,List.length_nil];omega))) .free aa aa ?_
   refine al aa (dG aa aa (by first | omega | (simp only[List.length_append,List.length_cons,List.length_nil];omega))) .free aa aa ?_
   refine kPm aa aa (kPm aa aa ?_)
   refine al aa (dG aa aa (by first | omega | (simp only[List.length_append,List.length_cons,List.length_nil];omega))) .free aa aa ?_
   refine al aa (dG aa aa (by first | omega | (simp only[List.length_append,List.length_cons,List.length_nil];omega))) .free aa aa ?_
   refine kPa aa aa (kPa aa aa (kPa aa aa (ad (am [4,3,5,9,8,7,24,23,22,2] rfl (ac (ac (ab (kPl nG isAgg5 aa aa aa aa (kPv (eV (c:=((g1%7:Nat):Int)) aa aa (by decide) ((iW 7 (by omega)).trans (by omega))) aa (kPv (an aa aa aa) aa (ad ?_)))))))))))
   refine a8 aa (fun h49=> ?_) (fun h49=> ?_)
   ·have h7:(f i).g%7=0:=by rw[hgg];simp at h49;omega
    refine ab (kPm aa aa ?_)
    refine al aa (dG aa aa (by first | omega | (simp only[List.length_append,List.length_cons,List.length_nil];omega))) .free aa aa ?_
    refine kPa aa aa (ad (am [3,4,5,9,8,24,23,22,2] rfl (ac (aQ [4] (cA fun q9 c9 hq9 hq9i=> ?_)))))
    simp only[Value.slice.injEq] at hq9
    obtain⟨rfl, -,rfl⟩:=hq9
    have hcb:∀ x∈ns,0≤x∧x<18446744073709551616:=fun x hx=>hcw.b x (by rw[←ht2];exact hx)
    have hnl3:ns.length≤3:=by rw[←ht2] at hc3;exact hc3
    refine ab (kPv (ag isAgg32 sizeOf32 aa aa) aa ?_)
    refine aw aa (au call13 aa) (l9 _ _ gl fg kd qk ck ns (by omega) hcb (cJ 0 aa) hq9i) .free aa aa ?_
    refine kPm aa aa (kPv (mD aa aa aa) aa (ad (bH aa ((by rw[show(kd,ns)=(f i).c from ht2];simp)) (aq (ab (kPv (aN aa aa) aa (kPm aa aa (ad (am [24,3,4,5,23,22,2] rfl ?_)))))))))
    exact fun a w st_=>⟨(i+1,ov2,s++(f i).t++[10]++[32,10],p++da (f i).c++[10]),⟨by first | omega | (simp only;omega),hov2,by rw[Bs f h7,hs],by rw[zv,hp],by simp only[List.length_append,List.length_cons,List.length_nil];omega,by simp only[List.length_append,List.length_cons,List.length_nil];omega⟩,by first | omega | (simp only;omega),st_.to (aE aa) (fun hh=>by have h1:=((hh.dp [2,3,3]).pk [2]);have h2:=mp (t:=(kd,(qk,ns.length,ck),ns)) h1;exact dX (l:=(List.range (i+1)).map fun j=>(f j).c) (by rw[List.range_succ,List.map_append,List.map_singleton, ←ht2];exact hrs.push aa) (h2.pk [1]))⟩
   ·have h7:¬ (f i).g%7=0:=by rw[hgg];simp at h49;omega
    refine aq (ac (aQ [4] (cA fun q9 c9 hq9 hq9i=> ?_)))
    simp only[Value.slice.injEq] at hq9
    obtain⟨rfl, -,rfl⟩:=hq9
    have hcb:∀ x∈ns,0≤x∧x<18446744073709551616:=fun x hx=>hcw.b x (by rw[←ht2];exact hx)
    have hnl3:ns.length≤3:=by rw[←ht2] at hc3;exact hc3
    refine ab (kPv (ag isAgg32 sizeOf32 aa aa) aa ?_)
    refine aw aa (au call13 aa) (l9 _ _ gl fg kd qk ck ns (by omega) hcb (cJ 0 aa) hq9i) .free aa aa ?_
    refine kPm aa aa (kPv (mD aa aa aa) aa (ad (am [55,4,3,5,24,23,22,2] rfl (bH aa ((by rw[show(kd,ns)=(f i).c from ht2];simp)) (aq (ab (kPv (aN aa aa) aa (kPm aa aa (ad ?_)))))))))
    exact fun a w st_=>⟨(i+1,ov2,s++(f i).t++[10],p++da (f i).c++[10]),⟨by first | omega | (simp only;omega),hov2,by rw[Br f h7,hs],by rw[zv,hp],by simp only[List.length_append,List.length_cons,List.length_nil];omega,by simp only[List.length_append,List.length_cons,List.length_nil];omega⟩,by first | omega | (simp only;omega),st_.to (aE aa) (fun hh=>by have h1:=((hh.dp [2,3,3]).pk [2]);have h2:=mp (t:=(kd,(qk,ns.length,ck),ns)) h1;exact dX (l:=(List.range (i+1)).map fun j=>(f j).c) (by rw[List.range_succ,List.map_append,List.map_singleton, ←ht2];exact hrs.push aa) (h2.pk [1]))⟩
  ·have hi:i=n:=by simp at h25;omega
   subst hi
   have hrk:=Dc hf
   obtain⟨cs,hcs⟩:∃ cs,cs=(List.range i).map fun j=>(f j).c:=⟨_,rfl⟩
   have hpa:eU s=(cs,0,0):=by
    rw[hs,oF hrk.2 (by rw[←hs];omega) (by rw[(wy f i).2];simp;omega) (by have:=zu f i;omega),(wy f i).2,hcs]
   have hpb:eU p=(cs,0,0):=by
    rw[hp,oF hrk.1 (by rw[←hp];omega) (by rw[(wy f i).1];simp;omega) (by simp[rD];omega),(wy f i).1,hcs]
   have hcw3:∀ c∈cs,p5 c:=fun c hc=>by
    rw[hcs] at hc
    obtain⟨j,hj,rfl⟩:=List.mem_map.1 hc
    exact Ln.c_w (hf j (List.mem_range.1 hj))
   have hlw:∀ c∈cs,c.2.length≤1000000:=fun c hc=>by have:=(hcw3 c hc).len;omega
   have hln3:cs.length≤1000:=by rw[hcs];simp;omega
   have hln:cs.length≤1000000:=by omega
   have hpr:cF (cs.map da)=p:=by rw[hp,hcs];unfold rD;rw[List.map_map,List.map_map];rfl
   refine aM (H':=ga 0 (sv,cs)::_) (fun w hh=>by rw[hcs];exact hh) (bF (ac (ab (kPm aa aa (aJ aa (au call14 aa) (oG _ _ gl fg s) .free aa aa ?_)))))
   rintro _ _ ⟨s1,hs1,rfl,rfl⟩
   rw[hpa]
   refine kPm aa aa (kPv (aA aa aa) aa (kPv (aA aa aa) aa (kPv (aA aa aa) aa (kPa aa aa (kPa aa aa (kPa aa aa (ad (am [13,12,11,5,4,2] rfl (ac (ab (kPm aa aa ?_)))))))))))
   refine aJ aa (au call14 aa) (oG _ _ gl fg p) .free aa aa ?_
   rintro _ _ ⟨s2,hs2,rfl,rfl⟩
   rw[hpb]
   refine kPm aa aa (kPv (aA aa aa) aa (kPv (aA aa aa) aa (kPv (aA aa aa) aa (kPa aa aa (kPa aa aa (kPa aa aa (ad (am [16,14,13,12,11,5,4,2] rfl (ac (ab (kPm aa aa ?_)))))))))))
   refine kPv (an aa aa aa) aa (kPm aa aa (al aa (ak aa) (.on aa aa (ae (by simp))) aa aa (al aa (an aa aa aa) (.on aa aa (ae (by simp))) aa aa (kPv (ay aa (by simp) aa) aa (kPm aa aa (al aa (ak aa) (.on aa aa (ae (by simp))) aa aa (al aa (ak aa) (.on aa aa (ae (by simp))) aa aa (aw aa (au call15 aa) (nB [1,1] [2] (qe hlw hlw hln hln)) (.on aa aa (ae (by simp))) aa aa ?_))))))))
   refine kPv (ay aa (by simp) aa) aa (kPm aa aa (al aa (ak aa) (.on aa aa (ae (by simp))) aa aa (aw aa (au call16 aa) (nB [1] [1] (uZ _ _ gl fg hln3 hcw3)) (.on aa aa (ae (by simp))) aa aa ?_)))
   refine al aa (ak aa) (.on aa aa (ae (by simp))) aa aa (al aa (mD aa aa aa) (.on aa aa (ae (by simp))) aa aa (kPv (ay aa (by simp) aa) aa (kPm aa aa (al aa (ak aa) (.on aa aa (ae (by rw[hpr];simp))) aa aa (al aa (an aa aa aa) (.on aa aa (ae (by rw[hpr];simp))) aa aa (kPv (ay aa (by rw[hpr];simp) aa) aa (kPm aa aa (al aa (ak aa) (.on aa aa (ae (by simp))) aa aa (al aa (ak aa) (.on aa aa (ae (by simp))) aa aa (aw aa (au call15 aa) (nB [0,1] [0,1] (qe hlw hlw hln hln)) (.on aa aa (ae (by simp))) aa aa ?_))))))))))
   refine kPv (ay aa (by simp) aa) aa (kPa aa aa (ad (am [2] rfl (az ?_))))
   exact ar results3 aa (fun w hw=>⟨by simp,(hw.dp [0,0,0])⟩)
theorem mn(W:World){a0:Option Addr}{n0 cap0:Nat}{f:Nat→Ln}(w0:n0≤9223372036854775807∧(∀ i,i<n0→LnW (f i))∧lA W a0 n0 5 (fun i=>(f i).row))(hsh:W.ShapedOpen Tryz.prog)(hL:laidMet Tryz.prog Rows.scriptLinesRow.laid W):
 Calls Tryz.prog 3 #[.slice a0 n0 cap0] W fun e w'=>e= .returned (.bool true)∧RowKit.Below W.heap.size W w':=
 De (of W [old W] (DZ hsh hL) (D7 hL.tail.tail.tail.tail.tail.tail) (DY hL.tail.tail.tail.tail.tail.tail.tail) a0 n0 cap0 f w0.2.1 w0.2.2)
namespace scriptLines
open Go.ChangeShapes Go.WideShapes Go.ChangeAt Go.RowKit
set_option maxRecDepth 100000 in
theorem Dd(os:Os)(started:os.Started)(H:Type)(enc:TypeId×Value→H):
 ReturnsInHanded {} Tryz.checked os 3 .any (fun w args=>(Rows.scriptLinesSpec.pre enc Tryz.prog Tryz.f3 Rows.scriptLinesRow.domain false w args∧laidMetH Tryz.prog Rows.scriptLinesRow.laid w)∧sizedMet enc Tryz.prog Tryz.f3 (OpenSpec.ofChange Rows.scriptLinesSpec) false w args) (Rows.scriptLinesSpec.post enc Tryz.prog Tryz.f3 false true false false):=by
 refine rn (C:=Tryz.checked) (laid:=Rows.scriptLinesRow.laid) Tryz.ownKnobs started (by kernel_rfl) func3
  (ChangeSpec.witness_shaped (enc:=enc) (C:=Tryz.checked) (os:=os) (X:=fun w _=>laidMetH Tryz.prog Rows.scriptLinesRow.laid w) false (World.laidAll Tryz.prog os Rows.scriptLinesRow.laid) #[.slice none 0 0] 8 (World.laidAll_os _ _ _)
   (World.shaped_of_ZipB (by kernel_rfl) (by kernel_rfl)) (by kernel_rfl) (by kernel_rfl) (by kernel_rfl)
   (by rw[MakeChecks.laidMetH_plain _ _ _ (by kernel_rfl)];exact laidMet_laidAll _ (by kernel_rfl) (by kernel_rfl))) ?_
 intro W base args ds gs before hval0 hW hcnd hL hsh
 rw[MakeChecks.laidMetH_plain _ _ _ (by kernel_rfl)] at hL
 have hval:∀ (j:Nat) t v,Tryz.f3.params[j]? =some t→args[j]? =some v→Value.okWide Tryz.prog W .any base t v:=hval0
 have hW':=hW
 obtain⟨p,q,hA0,hV,rfl,hfz,hnd⟩:=hW
 have hA:DataW.TrodAll enc Tryz.prog W 0 (fun _=>true) true Tryz.f3.params.toList args.toList ds p:=hA0
 rw[Tryz.params3] at hA hval
 obtain⟨v0,vs0,d0,ds0,p0,q0,hargs,rfl,rfl,h0,r0⟩:=trodAll_cons hA
 obtain⟨rfl,rfl,rfl⟩:=trodAll_nil r0
 obtain rfl:args= #[v0]:=by cases args;simp_all
 obtain⟨rfl,rfl⟩:=trodVars_none hV
 obtain⟨a0,len0,cap0,rfl⟩:=okWide_slice underlying22 (hval 0 22 v0 rfl rfl)
 have k0:=h0
 have lt0:∀ x∈p0,x.block<W.heap.size:=by obtain⟨m,hm⟩:=k0;exact DataW.trod_lt m _ _ _ hm
 obtain⟨z0,w0⟩:=jg h0
 clear hA0 hval0
 refine(mn W w0 hsh hL).mono fun e W' ⟨he,bel⟩=> ?_
 subst he
 exact⟨_,rfl,_,_,_,[],_,[],hW',trodAll_mk1 (shut_bool underlying4 _),(trodAll_cons_mk (Below.trod Tryz.laidOut (by kernel_rfl) (of_decide_eq_true (by kernel_rfl)) k0 bel lt0) trodAll_mk0),rfl,bel.frame _,fun h=>by cases h⟩
theorem Eo:Rows.scriptLinesRow.holds Tryz.pinned (OpenSpec.ofChange Rows.scriptLinesSpec):=
 OpenClaim.holds_of_wide 3 Tryz.f3 rfl rfl rfl rfl rfl rfl rfl ⟨rfl,rfl,rfl,rfl,rfl⟩ rfl rfl rfl rfl rfl named func3 D8 Eu wrap
  (fun os started H enc _=>Dd os started H enc)
theorem proved:Rows.ScriptLinesCardSaid:=
 Claim7.holds_tied_plain_at .later [] [.data,.data,.data,.data,.sentinel,.sentinel,.data,.data,.pinned] true (true, "f90e334a796904a9246829541802d2bcc979710ad5f61b09d7205d88cafc73d6") true Eo (fun _ h=>by cases h) (by kernel_rfl) (fun _ h=>by cases h) scriptLines_row_tie rfl ⟨rfl,rfl⟩ (by kernel_rfl) rfl
  (fun f fn hf hfn=>by
   obtain rfl:f=3:=Option.some.inj ((show Tryz.prog.funcNamed "tumulus/tumuluslaw18.ScriptLines" =some 3 by kernel_rfl).symm.trans hf) |>.symm
   obtain rfl:fn=Tryz.f3:=(Option.some.inj (Tryz.func3.symm.trans hfn)).symm
   exact⟨by kernel_rfl,fun j t ht=>by
    rw[Tryz.params3] at ht
    have hm:t∈[22]:=by simpa using Array.mem_of_getElem? ht
    have hall:([22].all fun u=> !Tryz.prog.wantsStandIn u)=true:=by kernel_rfl
    exact(show Tryz.prog.wantsStandIn t=false by simpa using List.all_eq_true.1 hall t hm)⟩)
  (by kernel_rfl)
end scriptLines
end Go.Proofs.YtoakdoeajpjgkaaGreatDoor
