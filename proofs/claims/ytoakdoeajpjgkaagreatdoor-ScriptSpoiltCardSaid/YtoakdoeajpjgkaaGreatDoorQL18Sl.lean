/- Part of a law's texts. Conditions: none. -/
import Derived.Test.YtoakdoeajpjgkaaGreatDoorQL18Sk
import Derived.Laws.Externs
open Go.Proofs.Tryz
set_option linter.all false
namespace Go.Proofs.YtoakdoeajpjgkaaGreatDoor
open Go
def LF(B:World):Prop:=∃ b off cap,B.cell? ⟨0,0,none⟩=some (.slice (some ⟨b,off,none⟩) 18 cap)∧lM B (some ⟨b,off,none⟩) 18 2 (fun k=>[str (fw k),i64 (fm k)])
def lm(w:List UInt8):Nat→Int×Nat
 | 0=>(-1,0)
 | k+1=>if fw k=w then ((k:Int),fm k) else lm w k
set_option maxRecDepth 10000 in
theorem C1:∀ j,j<18→∀ k,k<18→fw j=fw k→j=k:=by decide
theorem iP{w:List UInt8}:∀ {f k:Nat} {j m:Nat},fY w f k=some (j,m)→k≤j∧j<k+f∧fw j=w∧m=fm j
 | 0,_,_,_,h=>by cases h
 | f+1,k,j,m,h=>by
   unfold fY at h
   split at h
   ·rename_i h1;cases h;exact⟨Nat.le_refl _,by omega,h1,rfl⟩
   ·have:=iP h;exact⟨by omega,by omega,this.2.2⟩
theorem lp{w:List UInt8}:∀ {f k:Nat},fY w f k=none→∀ j,k≤j→j<k+f→fw j≠w
 | 0,_,_,j,h1,h2=>by omega
 | f+1,k,h,j,h1,h2=>by
   unfold fY at h
   split at h
   ·cases h
   ·rename_i h3
    by_cases e:j=k
    ·subst e;exact h3
    ·exact lp h j (by omega) (by omega)
theorem tG{w:List UInt8}{j:Nat}(hj:j<18)(h:fw j=w):∀ n,j<n→n≤18→lm w n=((j:Int),fm j)
 | 0,h1,_=>absurd h1 (Nat.not_lt_zero _)
 | n+1,h1,h2=>by
   unfold lm
   split
   ·rename_i h3
    rw[C1 n (by omega) j hj (h3.trans h.symm)]
   ·rename_i h3
    exact tG hj h n (by rcases Nat.lt_succ_iff_lt_or_eq.1 h1 with h4 | h4;exact h4;subst h4;exact absurd h h3) (by omega)
theorem pi{w:List UInt8}:∀ n,(∀ j,j<n→fw j≠w)→lm w n=(-1,0)
 | 0,_=>rfl
 | n+1,h=>by
   unfold lm
   rw[if_neg (h n (Nat.lt_succ_self n))]
   exact pi n fun j hj=>h j (by omega)
theorem qE(w:List UInt8):(∃ k,k<18∧gB w=some (k,fm k)∧lm w 18=((k:Int),fm k))∨(gB w=none∧lm w 18=(-1,0)):=by
 cases h:gB w with
 | none=>exact .inr ⟨rfl,pi 18 fun j hj=>lp h j (Nat.zero_le _) (by omega)⟩
 | some p=>
   obtain⟨k,m⟩:=p
   obtain⟨_,h2,h3,h4⟩:=iP h
   exact .inl ⟨k,by omega,by rw[h4],tG (by omega) h3 18 (by omega) (Nat.le_refl _)⟩
theorem xh(l:List UInt8):(spl 32 (dL 9 [32] l)).filter (fun x=>x !=[])=tok l none:=by
 rw[mL l none (fun _ h=>by cases h)]
 have:=ow 32 (dL 9 [32] l)
 cases e:spl 32 (dL 9 [32] l) with
 | nil=>exact absurd e this
 | cons p r=>simp
theorem oJ(l:List UInt8):(dL 9 [32] l).length=l.length:=by
 induction l with
 | nil=>rfl
 | cons x t ih=>
   show((if x=9 then [32] else [x])++dL 9 [32] t).length=_
   rw[List.length_append,ih]
   split<;>simp<;>omega
theorem nM(c:UInt8):∀ l:List UInt8,(spl c l).length≤l.length+1
 | []=>by simp[spl]
 | x::t=>by
   have:=nM c t
   unfold spl
   split
   ·simp;omega
   ·split
    ·rename_i e;rw[e] at this;simp at this ⊢;omega
    ·simp
theorem nb{l:List (List UInt8)}{j:Nat}(h:j<l.length):(l.take (j+1)).filter (fun x=>x !=[])=(l.take j).filter (fun x=>x !=[])++if l[j]=[] then [] else [l[j]]:=by
 rw[List.take_succ_eq_append_getElem h,List.filter_append]
 congr 1
 by_cases e:l[j]=[]
 ·rw[if_pos e];simp[e]
 ·rw[if_neg e];simp[e]
theorem CA{B:World}(H:List HP)(l:List UInt8):∀ w,Holds B H w→Calls Tryz.prog 38 [str l,.int .u8 35].toArray w (a8 B H (i64 (Lib.indexByte l 35))):=AV H l 35
theorem l7{l:List (List UInt8)}{p:List UInt8}{x:PSt}(h:(stP p x).1=false):itl stP (p::l) x=stP p x:=xP h
theorem u9{l:List (List UInt8)}{p:List UInt8}{x:PSt}(h:(stP p x).1=true):itl stP (p::l) x=itl stP l (stP p x).2:=by
 rw[itl,if_pos h]
theorem jG{s:List UInt8}{y:List Cmd×Int×Int}{a:Int}{o:List Cmd}(hs:s.length≤65536)(h:itl stP (spl 10 s) p0=(false,a,o,y)):cH s=y:=by
 unfold cH;rw[if_neg (by omega),if_neg (by rw[h];simp),h]
theorem qs{s:List UInt8}{y:List Cmd×Int×Int}{a:Int}{o:List Cmd}(hs:s.length≤65536)(h:itl stP (spl 10 s) p0=(true,a,o,y)):cH s=(o,0,0):=by
 unfold cH;rw[if_neg (by omega),if_pos (by rw[h]),h]
theorem xL(B:World)(Fr:List HP)[cM Fr B](gl:GL B)(lf:LF B)(s:List UInt8):
 ∀ w,Holds B Fr w→Calls Tryz.prog 20 [str s].toArray w (Ret B (fun rv H'=>∃ sv,aM sv=true∧rv= .tuple #[sv,i64 (cH s).2.1,i64 (cH s).2.2]∧H'=gh 0 (sv,(cH s).1)::Fr) (fun _ _=>False)):=by
 refine ao func20 aa ntmps20 aa (ac (ab (kPa aa aa (kPa aa aa (kPa aa aa (ad (ac (ac (ab (kPm aa aa (kPv (gI aa runUnderlying9 aa) aa ?_)))))))))))
 refine kPv (am aa aa aa) aa (ad ?_)
 refine aZ aa (fun h22=> ?_) (fun h22=> ?_)
 ·have hsl:65536<s.length:=by simp at h22;omega
  have hres:cH s=([],0,11):=by unfold cH;rw[if_pos hsl]
  refine ac (ab (kPa aa aa (kPa aa aa (kPa aa aa (ad (az ?_))))))
  exact kc results20 (.tmp aa) (.tmp aa) (.tmp aa) (fun w hh=>⟨_,⟨.slice none 0 0,rfl,by rw[hres],rfl⟩,by rw[hres];exact gb (hh)⟩)
 ·have hsl:s.length≤65536:=by simp at h22;omega
  have hsn:=nM 10 s
  refine aq (ac (ab (kPa aa aa (ad (ac (ac (aN (fun w hh=>gb hh) (ab (kPm aa aa (aI aa (ar call37 aa) (qj gl s (by omega) 10) .free aa aa ?_))))))))))
  rintro lv _ rfl
  refine nQ fun ql cl hql hcl hqli=> ?_
  subst hql
  obtain⟨bl,ol,rfl⟩:=hqli (List.length_pos_iff.2 (ow _ _))
  refine kPv (bB aa runUnderlying50 ⟨_,rfl⟩ rfl) aa (kPm aa aa (ad (aF (cA (ι:=Nat×Value×List Cmd) [25,24,4,3,2] (fun (i,ov,out)=>(i≤(spl 10 s).length)∧(aM ov=true)∧(out.length≤400)∧(itl stP (spl 10 s) p0=itl stP ((spl 10 s).drop i) ((i:Int),out,[],0,0))) (fun (i,ov,out)=>[(26,i64 i),(5,ov)]) (fun (i,ov,out)=>go 9 (.slice (some ⟨bl,ol,none⟩) (spl 10 s).length cl) (spl 10 s)::gh 0 (ov,out)::Fr) (fun (i,ov,out)=>(spl 10 s).length - i) (0,.slice none 0 0,[]) (⟨Nat.zero_le _,rfl,Nat.zero_le _,rfl⟩) (fun a w st=>st.to ⟨rfl,rfl,trivial⟩ (fun hh=>hh)) ?_))))
  rintro⟨i,ov,out⟩ ⟨hi0,hov,hol,hinv⟩
  try simp only at hi0 hov hol hinv ⊢
  refine bY (σ':=[(26,i64 i),(5,ov),(25,_),(24,_),(4,_),(3,_),(2,_)]) (aC aa) (ac (ab (kPv (am aa aa aa) aa (ad (ac ?_)))))
  refine aZ aa (fun h27=> ?_) (fun h27=> ?_)
  ·have hi:i<(spl 10 s).length:=by simp at h27;omega
   obtain⟨p,hp⟩:∃ p,p=(spl 10 s).getD i []:=⟨_,rfl⟩
   have hpd:(spl 10 s).drop i=p::(spl 10 s).drop (i+1):=by rw[hp];exact jl hi
   have hpg:((spl 10 s).map str)[i]? =some (str p):=by rw[hp];exact iX hi
   have hpl:p.length≤65536:=by rw[hp];rw[List.getD_eq_getElem?_getD,List.getElem?_eq_getElem hi];exact vT s.length s (Nat.le_refl _) hsl _ (List.getElem_mem hi)
   have hcl2:=mv p
   clear hp
   refine aq (ac (aF (ac (ab (kPm aa aa (kPv (bT runUnderlying50 sizeOf9 aa aa (by omega) (by omega)) aa (kPv (bH (v:=str p) isAgg9 (j9 0 aa) aa (by rw[Int.toNat_natCast];exact hpg)) aa (kPa aa aa (kPa aa aa (ad ?_))))))))))
   refine C0 (ι:=List UInt8) [6,26,5,25,24,4,3,2] (fun cp=>(cp=bS p)) (fun cp=>[(7,str cp)]) (fun cp=>go 9 (.slice (some ⟨bl,ol,none⟩) (spl 10 s).length cl) (spl 10 s)::gh 0 (ov,out)::Fr) ?_ ?_
   ·skip
    refine ac (ab (kPm aa aa (ay aa (ar call38 aa) (CA _ p) .free aa aa ?_)))
    refine kPa aa aa (ad (ac (ab (kPm aa aa (kPv (am aa aa aa) aa (ad (an [34,8,7,6,26,5,25,24,4,3,2] rfl ?_)))))))
    refine aZ aa (fun h34=> ?_) (fun h34=> ?_)
    ·have hge:0≤Lib.indexByte p 35:=by simpa using h34
     obtain⟨hi1,hi2⟩:=zB hge
     refine ab (kPm aa aa (kPm aa aa (kPv (k8 runUnderlying9 aa aa hge (by omega)) aa (kPa aa aa (ad ?_)))))
     exact fun a w st_=>⟨_,As hge,st_.to (aC aa) (fun hh=>hh)⟩
    ·have hlt:¬ 0≤Lib.indexByte p 35:=by simpa using h34
     refine aq ?_
     exact fun a w st_=>⟨_,(uh (rG hlt)).symm,st_.to (aC aa) (fun hh=>hh)⟩
   rintro cp hcp
   try simp only at hcp ⊢
   refine bY (σ':=[(7,str cp),(6,_),(26,_),(5,_),(25,_),(24,_),(4,_),(3,_),(2,_)]) (aC aa) (ac ?_)
   subst hcp
   refine ab (kPa aa aa (ad (ac (ac (aN (fun w hh=>lO (T:=9) (m:=1) (enc:=xl) hh) (ab (kPm aa aa (ay aa (ar call23 aa) (yP gl (bS p) (by omega) 9 [32] (by decide) aa) .free aa aa ?_))))))))
   refine aI aa (ar call37 aa) (qj gl (dL 9 [32] (bS p)) (by rw[oJ];omega) 32) .free aa aa ?_
   rintro pv _ rfl
   refine nQ fun q2 cap2 hq2 hcap2 hqi2=> ?_
   subst hq2
   refine kPv (bB aa runUnderlying50 ⟨_,rfl⟩ rfl) aa (kPm aa aa (ad (aF (cA (ι:=Nat×Value×List (List UInt8)) [41,40,6,26,5,25,24,4,3,2] (fun (j,wv,ws)=>(j≤(spl 32 (dL 9 [32] (bS p))).length)∧(ws=((spl 32 (dL 9 [32] (bS p))).take j).filter (fun x=>x !=[]))∧(aM wv=true)∧(ws.length≤j)) (fun (j,wv,ws)=>[(42,i64 j),(9,wv)]) (fun (j,wv,ws)=>go 9 wv ws::go 9 (.slice q2 (spl 32 (dL 9 [32] (bS p))).length cap2) (spl 32 (dL 9 [32] (bS p)))::go 9 (.slice (some ⟨bl,ol,none⟩) (spl 10 s).length cl) (spl 10 s)::gh 0 (ov,out)::Fr) (fun (j,wv,ws)=>(spl 32 (dL 9 [32] (bS p))).length - j) (0,.slice none 0 0,[]) (⟨Nat.zero_le _,rfl,rfl,Nat.le_refl _⟩) (fun a w st=>st.to ⟨rfl,rfl,trivial⟩ (fun hh=>(hh.pk [1]))) ?_))))
   rintro⟨j,wv,ws⟩ ⟨hj0,hws,hwv,hwl⟩
   try simp only at hj0 hws hwv hwl ⊢
   refine bY (σ':=[(42,i64 j),(9,wv),(41,_),(40,_),(6,_),(26,_),(5,_),(25,_),(24,_),(4,_),(3,_),(2,_)]) (aC aa) (ac (ab (kPv (am aa aa aa) aa (ad (ac ?_)))))
   refine aZ aa (fun h43=> ?_) (fun h43=> ?_)
   ·have hj:j<(spl 32 (dL 9 [32] (bS p))).length:=by simp at h43;omega
    have hspl2:=nM 32 (dL 9 [32] (bS p))
    rw[oJ] at hspl2
    obtain⟨b2,o2,rfl⟩:=hqi2 (by omega)
    refine aq (ac (aF (ac (ab (kPv (bT runUnderlying50 sizeOf9 aa aa (by omega) (by omega)) aa (kPv (bH (v:=str ((spl 32 (dL 9 [32] (bS p))).getD j [])) isAgg9 (j9 1 aa) aa (by rw[Int.toNat_natCast];exact iX hj)) aa (kPa aa aa (ad (ac (ab (kPm aa aa ?_)))))))))))
    refine kPv (mT aa aa aa) aa (ad ?_)
    refine aZ aa (fun h47=> ?_) (fun h47=> ?_)
    ·have hne:¬ (spl 32 (dL 9 [32] (bS p)))[j]=[]:=by intro e;simp[List.getD,hj,e] at h47
     refine ab (kPm aa aa (kPm aa aa (kPb (lH uI (v:=(spl 32 (dL 9 [32] (bS p))).getD j []) runUnderlying50 sizeOf9 zeroValue9 ⟨⟨by decide,by decide⟩,rfl⟩ rfl aa) aa fun b50=>(aS [1,0] (cI aa (gc uI (ys:=[(spl 32 (dL 9 [32] (bS p))).getD j []]) aa aa runUnderlying50 runUnderlying50 ⟨_,rfl⟩ sizeOf9 zeroValue9 aa DY aa aa (SlM.row (b:=b50) aa aa) (Nat.succ_pos _) (by have:=nM 32 (dL 9 [32] (bS p));rw[oJ] at this;simp;omega)) .free aa aa ?_)))))
     rintro wv2 _ ⟨hwv2,rfl⟩
     refine kPa aa aa (ad (an [9,42,41,40,6,26,5,25,24,4,3,2] rfl (ab (kPv (aL aa aa) aa (kPm aa aa (ad ?_))))))
     exact fun a w st_=>⟨(j+1,wv2,ws++[(spl 32 (dL 9 [32] (bS p))).getD j []]),⟨by first | omega | (simp only;omega),by rw[nb hj,if_neg hne,hws];simp[List.getD,hj],hwv2,by simp;omega⟩,by first | omega | (simp only;omega),st_.to (aC aa) (fun hh=>(hh.dp [1]))⟩
    ·have hem:(spl 32 (dL 9 [32] (bS p)))[j]=[]:=by simpa [List.getD,hj] using h47
     refine aq (ab (kPv (aL aa aa) aa (kPm aa aa (ad (an [42,9,41,40,6,26,5,25,24,4,3,2] rfl ?_)))))
     exact fun a w st_=>⟨(j+1,wv,ws),⟨by first | omega | (simp only;omega),by rw[nb hj,if_pos hem,hws];simp,hwv,by simp only;omega⟩,by first | omega | (simp only;omega),st_.to (aC aa) (fun hh=>hh)⟩
   ·have hj:j=(spl 32 (dL 9 [32] (bS p))).length:=by simp at h43;omega
    have hww:ws=(tok (bS p) none):=by rw[hws,hj,List.take_length];exact xh _
    subst hww
    have hwn:=vN (p:=p) (by omega)
    refine bC (ac (ac (nQ fun q3 cap3 hq3 hcap3 hqi3=> ?_)))
    subst hq3
    refine ab (kPm aa aa (kPv (bB aa runUnderlying50 ⟨_,rfl⟩ rfl) aa (kPv (am aa aa aa) aa (ad ?_))))
    refine aZ aa (fun h55=> ?_) (fun h55=> ?_)
    ·have hwe:(tok (bS p) none)=[]:=List.eq_nil_of_length_eq_zero (by simp at h55;simpa using h55)
     have hst:stP p ((i:Int),out,[],0,0)=(true,(i:Int)+1,out,[],0,0):=by unfold stP;simp only;rw[show IntKind.i64.wrap ((i:Int)+1)=(i:Int)+1 from fR (by omega)];rw[if_pos hwe]
     refine bC (ab (kPv (aL aa aa) aa (kPm aa aa (ad (an [26,5,25,24,4,3,2] rfl ?_)))))
     exact fun a w st_=>⟨(i+1,ov,out),⟨by first | omega | (simp only;omega),hov,hol,by rw[hinv,hpd,u9 (by rw[hst]),hst];rfl⟩,by first | omega | (simp only;omega),st_.to (aC aa) (fun hh=>(hh.dp [0,0]))⟩
    ·have hwe:¬ (tok (bS p) none)=[]:=fun e=>by simp[e] at h55
     have hw0:0<(tok (bS p) none).length:=List.length_pos_iff.2 hwe
     refine aq (ac (ac (aS [3] (rO fun rs hrs=>(l9 fun q4 cap4 hq4 hqi4=> ?_)))))
     subst hq4
     have hrl:rs.length=out.length:=by rw[←hrs.1,List.length_map]
     obtain⟨b3,o3,rfl⟩:=hqi3 hw0
     refine ab (kPm aa aa (kPv (bB aa runUnderlying24 ⟨_,rfl⟩ rfl) aa (kPv (am aa aa aa) aa (ad (an [58,9,6,26,5,25,24,4,3,2] rfl ?_)))))
     refine aZ aa (fun h58=> ?_) (fun h58=> ?_)
     ·have h400:out.length=400:=by simp at h58;omega
      have hst:stP p ((i:Int),out,[],0,0)=(false,(i:Int)+1,out,[],(i:Int)+1,11):=by unfold stP;simp only;rw[show IntKind.i64.wrap ((i:Int)+1)=(i:Int)+1 from fR (by omega)];rw[if_neg hwe,if_pos h400]
      have hres:cH s=([],(i:Int)+1,11):=jG hsl (by rw[hinv,hpd,l7 (by rw[hst]),hst])
      refine ac (ab (kPm aa aa (kPv (aL aa aa) aa (kPa aa aa (kPa aa aa (kPa aa aa (ad (az ?_))))))))
      exact kc results20 (.tmp aa) (.tmp aa) (.tmp aa) (fun w hh=>⟨_,⟨.slice none 0 0,rfl,by rw[hres],rfl⟩,by rw[hres];exact gb ((hh.dp [0,0,0,0,0]))⟩)
     ·have h400:¬ out.length=400:=by simp at h58;omega
      refine aq (ac (ab (kPv (aP aa (pP _ aa)) aa (kPb (aD zeroValue32 aa) aa fun b12=> ?_))))
      refine kPs (ax (vs:=_) sizeOf32 aa aa aa (by first | rfl | exact dW (by assumption)) rfl) rfl ?_;refine ad ?_;refine ac ?_;refine ab ?_;refine kPa aa aa ?_;refine ad ?_;refine ac ?_;refine ac ?_
      obtain⟨bf,of_,capf,hlf1,hlf2⟩:=lf
      refine ab (kPv (kE isAgg56 aa hlf1) aa (kPv (bB aa runUnderlying56 ⟨_,rfl⟩ rfl) aa (kPm aa aa (ad (aF (cA (ι:=Nat×Int×Nat) [63,62,12,9,6,26,5,25,24,4,3,2] (fun (k,kd,mn)=>(k≤18)∧(lm ((tok (bS p) none).getD 0 []) k=(kd,mn))) (fun (k,kd,mn)=>[(64,i64 k),(13,i64 mn)]) (fun (k,kd,mn)=>row b12 [i64 kd,.slice none 0 0] 32::go 9 (.slice (some ⟨b3,o3,none⟩) (tok (bS p) none).length cap3) (tok (bS p) none)::gF 32 2 crE 0 (.slice q4 rs.length cap4,rs)::grp (rs.map iV)::go 9 (.slice q2 (spl 32 (dL 9 [32] (bS p))).length cap2) (spl 32 (dL 9 [32] (bS p)))::go 9 (.slice (some ⟨bl,ol,none⟩) (spl 10 s).length cl) (spl 10 s)::Fr) (fun (k,kd,mn)=>18 - k) (0, -1,0) (⟨Nat.zero_le _,rfl⟩) (fun a w st=>st.to ⟨rfl,rfl,trivial⟩ (fun hh=>(hh.pk [0,2]))) ?_))))))
      rintro⟨k,kd,mn⟩ ⟨hk0,hkm⟩
      try simp only at hk0 hkm ⊢
      refine bY (σ':=[(64,i64 k),(13,i64 mn),(63,_),(62,_),(12,_),(9,_),(6,_),(26,_),(5,_),(25,_),(24,_),(4,_),(3,_),(2,_)]) (aC aa) (ac (ab (kPv (am aa aa aa) aa (ad (ac ?_)))))
      refine aZ aa (fun h65=> ?_) (fun h65=> ?_)
      ·have hk:k<18:=by simp at h65;omega
       refine aq (ac (aF (ac (ab (kPm aa aa (kPv (j0 (sz:=2) runUnderlying56 sizeOf55 aa aa (by omega) (by omega) aa) aa (kPv (gS (i:=k) (c:=[str (fw k),i64 (fm k)]) (cap:=capf) isAgg55 sizeOf55 (SlN.arg hlf2) aa (by simp[hk])) aa (kPb (aD zeroValue55 aa) aa fun b15=>(kPa aa aa ?_)))))))))
       refine kPs (ax (vs:=_) sizeOf55 aa aa aa (by first | rfl | exact dW (by assumption)) rfl) rfl ?_;refine ad ?_;refine ac ?_;refine cK Tryz.mixed (by kernel_rfl) (by kernel_rfl) ?_;refine kQv (aE (m:=_) wV aa aa) aa ?_;refine kQv (ai isAgg9 aa aa) aa ?_;refine kQm aa aa ?_;refine kQv (bT runUnderlying50 sizeOf9 aa aa (by omega) (by omega)) aa ?_
       refine kQv (bH (v:=str ((tok (bS p) none).getD 0 [])) isAgg9 (j9 2 aa) aa (iX hw0)) aa (kQv (mT aa aa aa) aa (cg (an [74,14,15,64,13,63,62,12,9,6,26,5,25,24,4,3,2] rfl ?_)))
       refine aZ aa (fun h74=> ?_) (fun h74=> ?_)
       ·have heq:fw k=((tok (bS p) none).getD 0 []):=by simpa using h74
        refine cR [0,1,2,3,4,5] [4] [1,2] [4] [row b15 (c6 [Value.string {data:= #[]},Value.int .i64 0] 0 [str (fw k),i64 (fm k)]) 55] Tryz.mixed (by kernel_rfl) ?_
        refine aQ aa aa aa (aj aa) .free aa (ak aa aa aa (aE (m:=_) wU aa aa) .free aa (ak aa aa aa (ai isAgg3 aa aa) .free aa (aQ aa aa aa (aE (m:=_) iJ aa aa) .free aa (aT aa aa (kPs (aO sizeOf29 aa aa aa aa) aa (ad (cN (aQ aa aa aa (bu aa) .free aa (cx (an [13,64,63,62,12,9,6,26,5,25,24,4,3,2] rfl (ab ?_)))))))))))
        refine kPv (aL aa aa) aa (kPm aa aa (ad ?_))
        exact fun a w st_=>⟨(k+1,(k:Int),fm k),⟨by first | omega | (simp only;omega),by rw[lm,if_pos heq]⟩,by first | omega | (simp only;omega),st_.to (aC aa) (fun hh=>(hh.dp [0]))⟩
       ·have hne:¬ fw k=((tok (bS p) none).getD 0 []):=by simpa using h74
        refine aq (ab (kPv (aL aa aa) aa (kPm aa aa (ad ?_))))
        exact fun a w st_=>⟨(k+1,kd,mn),⟨by first | omega | (simp only;omega),by rw[lm,if_neg hne];exact hkm⟩,by first | omega | (simp only;omega),st_.to (aC aa) (fun hh=>(hh.dp [0]))⟩
      ·have hk:k=18:=by simp at h65;omega
       subst hk
       refine bC (ac (ac (ab (kPl iJ isAgg29 aa aa aa aa (kPv (am aa aa aa) aa (ad ?_))))))
       refine aZ aa (fun h82=> ?_) (fun h82=> ?_)
       ·have hkn:gB ((tok (bS p) none).getD 0 [])=none:=by
         rcases qE ((tok (bS p) none).getD 0 []) with ⟨n,h1,h2,h3⟩ | ⟨h1,_⟩
         ·rw[hkm] at h3;have h4:=congrArg Prod.fst h3;simp at h82 h4;omega
         ·exact h1
        have hst:stP p ((i:Int),out,[],0,0)=(false,(i:Int)+1,out,[],(i:Int)+1,12):=by unfold stP;simp only;rw[show IntKind.i64.wrap ((i:Int)+1)=(i:Int)+1 from fR (by omega)];rw[if_neg hwe,if_neg h400,qC hkn];rfl
        have hres:cH s=([],(i:Int)+1,12):=jG hsl (by rw[hinv,hpd,l7 (by rw[hst]),hst])
        refine ac (ab (kPm aa aa (kPv (aL aa aa) aa (kPa aa aa (kPa aa aa (kPa aa aa (ad (an [4,3,2,13,12,9,6,26,5,25,24] rfl (az ?_)))))))))
        exact kc results20 (.tmp aa) (.tmp aa) (.tmp aa) (fun w hh=>⟨_,⟨.slice none 0 0,rfl,by rw[hres],rfl⟩,by rw[hres];exact gb ((hh.dp [0,0,0,0,0,0]))⟩)
       ·obtain⟨n,hn18,hkd,rfl,rfl⟩:∃ n,n<18∧gB ((tok (bS p) none).getD 0 [])=some (n,fm n)∧kd=(n:Int)∧mn=fm n:=by
         rcases qE ((tok (bS p) none).getD 0 []) with ⟨n,h1,h2,h3⟩ | ⟨_,h1⟩
         ·rw[hkm] at h3;exact⟨n,h1,h2,congrArg Prod.fst h3,congrArg Prod.snd h3⟩
         ·rw[hkm] at h1;have h4:=congrArg Prod.fst h1;simp at h82 h4;omega
        have hfm:=tW n hn18
        refine aq (ac (ac (ab (kPm aa aa (kPv (bB aa runUnderlying50 ⟨_,rfl⟩ rfl) aa (kPm aa aa (kPv (aL aa aa) aa (kPv (am aa aa aa) aa (ad (an [89,12,9,6,26,5,25,24,4,3,2] rfl ?_))))))))))
        refine aZ aa (fun h89=> ?_) (fun h89=> ?_)
        ·have hln:(tok (bS p) none).length≠fm n+1:=by simp at h89;omega
         have hst:stP p ((i:Int),out,[],0,0)=(false,(i:Int)+1,out,[],(i:Int)+1,13):=by unfold stP;simp only;rw[show IntKind.i64.wrap ((i:Int)+1)=(i:Int)+1 from fR (by omega)];rw[if_neg hwe,if_neg h400,qD hkd hln];rfl
         have hres:cH s=([],(i:Int)+1,13):=jG hsl (by rw[hinv,hpd,l7 (by rw[hst]),hst])
         refine ac (ab (kPm aa aa (kPv (aL aa aa) aa (kPa aa aa (kPa aa aa (kPa aa aa (ad (az ?_))))))))
         exact kc results20 (.tmp aa) (.tmp aa) (.tmp aa) (fun w hh=>⟨_,⟨.slice none 0 0,rfl,by rw[hres],rfl⟩,by rw[hres];exact gb ((hh.dp [0,0,0,0,0,0]))⟩)
        ·have hln:(tok (bS p) none).length=fm n+1:=by simp at h89;omega
         refine aq (ac (ac (aN (fun w hh=>ew (T:=25) (enc:=w64) hh) (ab (kPm aa aa (kPv (Ab runUnderlying50 sizeOf9 aa aa hw0 hcap3) aa (kPv (bB aa runUnderlying50 ⟨_,rfl⟩ rfl) aa (kPm aa aa (ad (aF (cA (ι:=Nat×List Int×Value) [94,93,12,6,26,5,25,24,4,3,2] (fun (j,ns,nv)=>(j≤(tok (bS p) none).length - 1)∧(fG ((tok (bS p) none).drop 1)=(fG ((tok (bS p) none).drop (j+1))).map (ns++ ·))∧(ns.length=j)∧(aM nv=true)) (fun (j,ns,nv)=>[(95,i64 j)]) (fun (j,ns,nv)=>cP 0 (nv,ns)::row b12 [i64 n,nv] 32::go 9 (.slice (some ⟨b3,o3,none⟩) (tok (bS p) none).length cap3) (tok (bS p) none)::gF 32 2 crE 0 (.slice q4 rs.length cap4,rs)::grp (rs.map iV)::go 9 (.slice q2 (spl 32 (dL 9 [32] (bS p))).length cap2) (spl 32 (dL 9 [32] (bS p)))::go 9 (.slice (some ⟨bl,ol,none⟩) (spl 10 s).length cl) (spl 10 s)::Fr) (fun (j,ns,nv)=>(tok (bS p) none).length - j) (0,[],.slice none 0 0) (⟨Nat.zero_le _,by simp,rfl,rfl⟩) (fun a w st=>st.to ⟨rfl,trivial⟩ (fun hh=>hh)) ?_)))))))))))
         rintro⟨j,ns,nv⟩ ⟨hj0,hns,hnl,hnv⟩
         try simp only at hj0 hns hnl hnv ⊢
         refine bY (σ':=[(95,i64 j),(94,_),(93,_),(12,_),(6,_),(26,_),(5,_),(25,_),(24,_),(4,_),(3,_),(2,_)]) (aC aa) (ac (ab (kPv (am aa aa aa) aa (ad (ac ?_)))))
         refine aZ aa (fun h96=> ?_) (fun h96=> ?_)
         ·have hj3:j<(tok (bS p) none).length - 1:=by simp at h96;omega
          obtain⟨x3,hx⟩:∃ x3,x3=(tok (bS p) none).getD (j+1) []:=⟨_,rfl⟩
          have hxd:(tok (bS p) none).drop (j+1)=x3::(tok (bS p) none).drop (j+1+1):=by rw[hx];exact jl (by omega)
          have hxg:((tok (bS p) none).map str)[j+1]? =some (str x3):=by rw[hx];exact iX (by omega)
          have hx3:x3.length≤1000000:=by rw[hx];exact qf (by omega) _
          clear hx
          refine aq (ac (aF (ac (ab (kPv ((bT runUnderlying50 sizeOf9 aa aa (by omega) (by omega)).eq (show _=Value.pointer (some ⟨b3,o3+(j+1),none⟩) by rw[if_neg (by omega),Int.toNat_natCast,Nat.add_assoc,Nat.add_comm 1])) aa (kPv (bH (v:=str x3) isAgg9 (j9 2 aa) aa hxg) aa (kPa aa aa (ad (ac (ab (kPm aa aa ?_)))))))))))
          refine ay aa (ar call39 aa) (x7 B _ x3 hx3) .free aa aa ?_
          refine kPm aa aa (kPv (aA aa aa) aa (kPv (aA aa aa) aa (kPa aa aa (kPa aa aa (ad (an [19,18,95,94,93,12,6,26,5,25,24,4,3,2] rfl (ac (ac (ab (kPm aa aa (kPv (bx aa) aa ?_)))))))))))
          refine ad ?_
          refine aZ aa (fun h105=> ?_) (fun h105=> ?_)
          ·have hnum:num x3=none:=by rw[←nU];simpa using h105
           have hst:stP p ((i:Int),out,[],0,0)=(false,(i:Int)+1,out,[],(i:Int)+1,13):=by unfold stP;simp only;rw[show IntKind.i64.wrap ((i:Int)+1)=(i:Int)+1 from fR (by omega)];rw[if_neg hwe,if_neg h400,ph hkd hln (by rw[hns,hxd];exact mH hnum)];rfl
           have hres:cH s=([],(i:Int)+1,13):=jG hsl (by rw[hinv,hpd,l7 (by rw[hst]),hst])
           refine ac (ab (kPm aa aa (kPv (aL aa aa) aa (kPa aa aa (kPa aa aa (kPa aa aa (ad (az ?_))))))))
           exact kc results20 (.tmp aa) (.tmp aa) (.tmp aa) (fun w hh=>⟨_,⟨.slice none 0 0,rfl,by rw[hres],rfl⟩,by rw[hres];exact gb ((hh.dp [0,0,0,0,0,0,0]))⟩)
          ·obtain⟨u,hdg⟩:∃ u,pJ x3=some u:=Option.isSome_iff_exists.1 (by simpa using h105)
           have hnum:num x3=some u:=by rw[←nU];exact hdg
           rw[hdg]
           refine aq (ab (kPl gH isAgg30 aa aa aa aa (kPm aa aa (kPb (fB runUnderlying30 sizeOf25 zeroValue25 aa aa aa) aa fun b111=>(aS [1,0] (cI aa (dD aa aa runUnderlying30 runUnderlying30 ⟨_,rfl⟩ sizeOf25 zeroValue25 aa (fun _=>rfl) gY aa aa (by omega)) .free aa aa ?_))))))
           rintro nv9 _ ⟨hnv9,rfl⟩
           refine kPv (aE (m:=_) gH aa aa) aa ?_
           refine kPs (aO sizeOf30 aa aa (by first | rfl | assumption) rfl) rfl ?_;refine ad ?_;refine an [95,94,93,12,6,26,5,25,24,4,3,2] rfl ?_;refine ab ?_;refine kPv (aL aa aa) aa ?_;refine kPm aa aa ?_;refine ad ?_
           exact fun a w st_=>⟨(j+1,ns++[(u:Int)],nv9),⟨by first | omega | (simp only;omega),by rw[hns,hxd,tq hnum],by simp[hnl],hnv9⟩,by first | omega | (simp only;omega),st_.to (aC aa) (fun hh=>hh)⟩
         ·have hj3:j=(tok (bS p) none).length - 1:=by simp at h96;omega
          have hlm:cJ (tok (bS p) none)=(((n:Int),ns),0):=rD hkd hln (by rw[hns,List.drop_eq_nil_of_le (by omega)];simp[fG])
          have hst:stP p ((i:Int),out,[],0,0)=(true,(i:Int)+1,out++[((n:Int),ns)],[],0,0):=by unfold stP;simp only;rw[show IntKind.i64.wrap ((i:Int)+1)=(i:Int)+1 from fR (by omega)];rw[if_neg hwe,if_neg h400,hlm];rfl
          refine bC (pq fun q5 c5 hq5=> ?_)
          subst hq5
          refine ab (kPm aa aa (kPv (ah isAgg32 sizeOf32 aa aa) aa ?_))
          refine kPb (lH ny (v:=((n:Int),(q5,ns.length,c5),ns)) runUnderlying24 sizeOf32 zeroValue32 ⟨⟨by decide,by decide⟩,rfl⟩ rfl aa) aa fun b117=>(aS [4,0] (cI aa (gc ny (ys:=[((n:Int),(q5,ns.length,c5),ns)]) aa aa runUnderlying24 runUnderlying24 ⟨_,rfl⟩ sizeOf32 zeroValue32 aa B8 aa aa (SlM.row (b:=b117) aa aa) (Nat.succ_pos _) (by simp;omega)) .free aa aa ?_))
          rintro ov2 _ ⟨hov2,rfl⟩
          refine kPa aa aa (ad (an [5,26,25,24,4,3,2] rfl (ab (kPv (aL aa aa) aa (kPm aa aa (ad ?_))))))
          exact fun a w st_=>⟨(i+1,ov2,out++[((n:Int),ns)]),⟨by first | omega | (simp only;omega),hov2,by simp;omega,by rw[hinv,hpd,u9 (by rw[hst]),hst];rfl⟩,by first | omega | (simp only;omega),st_.to (aC aa) (fun hh=>by have h1:=((hh.dp [1,2,2,3]).pk [2,1]);have h2:=qz (t:=((n:Int),(q5,ns.length,c5),ns)) h1;exact(fA (hrs.push aa) (h2.pk [1])).pk [1])⟩
  ·have hi:i=(spl 10 s).length:=by simp at h27;omega
   have hres:cH s=(out,0,0):=qs hsl (by rw[hinv,List.drop_eq_nil_of_le (by omega)];rfl)
   refine bC (ac (ab (kPm aa aa (kPa aa aa (kPa aa aa (kPa aa aa (ad (az ?_))))))))
   exact kc results20 (.tmp aa) (.tmp aa) (.tmp aa) (fun w hh=>⟨_,⟨ov,hov,by rw[hres],rfl⟩,by rw[hres];exact(hh.dp [0])⟩)
abbrev gj(i v:Int)(s:Dev)(S:bE):Out (Int×bE):=S.store s i v
def bE.fresh(S:bE)(f t:Int):bE:={S with ff:=f,ft:=t,seen:=[],dirty:=[]}
def je(c:Cfg)(b:Blk)(S:bE)(s:Dev):Out (Int×bE):=
 (ls gj c b s (S.fresh 0 0)).then fun x s1=>if x.1≠0 then (x.2.abort s1).then fun S2 s2=> .ok (x.1,S2) s2
  else (x.2.commit s1).then fun S2 s2=> .ok (0,S2) s2
def eN(bd:Nat)(c:Cfg)(S:bE)(s:Dev)(ws:List Int):Out (Option bF×Int×bE):=
 if (s.block c).2≠0 then .ok (none,(s.block c).2,S) s
 else ((et bd c (s.block c).1 ((s.block c).1.rts++ws)).run s).then fun X s1=>(je c X.block S s1).then fun x s2=>
  if x.1≠0 then .ok (none,x.1,x.2) s2 else .ok (some X,0,x.2) s2
theorem qY{s:Dev}{c:Cfg}(hc:bA c)(h:(s.block c).2=0):0<(s.block c).1.rts.length:=by
 have:=hc.r1
 unfold Dev.block at h ⊢
 split at h
 ·cases h
 ·rename_i h1;rw[if_neg h1];simp only[aX];omega
theorem o8{α:Type}(l:List (Int×α))(k:Int)(a:α):(mset l k a).length≤l.length+1:=by
 induction l with
 | nil=>simp[mset]
 | cons p t ih=>unfold mset;split<;>simp<;>omega
theorem rj{S S':bE}{s s':Dev}{i v a:Int}(e:S.store s i v= .ok (a,S') s'):S'.dirty.length≤S.dirty.length+1:=by
 have h1:=o8 S.dirty (i / 8) ()
 unfold bE.store at e
 split at e
 ·cases e;omega
 ·split at e
  ·obtain⟨x,t,e1,e⟩:=aJ e
   split at e
   ·cases e;simp only;omega
   ·obtain⟨y,u,e2,e⟩:=aJ e
    cases e;exact h1
  ·obtain⟨y,u,e2,e⟩:=aJ e
   cases e;exact h1
theorem jv:∀ (l:List Int) (i:Int) (S S':bE) (s s':Dev) (a:Int),gU gj l i s S= .ok (a,S') s'→S'.dirty.length≤S.dirty.length+l.length
 | [],i,S,S',s,s',a,e=>by cases e;simp
 | v::vs,i,S,S',s,s',a,e=>by
   unfold gU at e
   split at e
   ·have:=jv vs _ _ _ _ _ _ e;simp only[List.length_cons];omega
   ·obtain⟨⟨x,S1⟩,s1,e1,e⟩:=aJ e
    have h1:=rj e1
    split at e
    ·cases e;simp only[List.length_cons];omega
    ·have:=jv vs _ _ _ _ _ _ e;simp only[List.length_cons] at this ⊢;omega
structure AM(S:bE)(bd:Nat)(c:Cfg)(s:Dev):Prop where
 w:dG S.L
 n:s.n≤1000000
 d:S.L.d=bd
 c:S.L.c=c
theorem wR(B:World)(Fr:List HP)(bs x bd:Nat)(S:bE)(X:bF)(hX:fj X)(hrl0:0<X.b.rts.length)(c:Cfg)(s:Dev)(hu:U64 s)(hK:AM S bd c s):
 ∀ w,Holds B (fD bs S::eU x X::aB bd s::Fr) w→Calls Tryz.prog 172 [ptr bd,dV c,ptr bs,ptr x].toArray w (Ret B (fun rv H'=>∃ a S' s',je c X.block S s= .ok (a,S') s'∧rv=i64 a∧H'=fD bs S'::eU x X::aB bd s'::Fr) (fun ch H'=>∃ s',je c X.block S s= .off s'∧ch=dR∧H'=aB bd s'::Fr)):=by
 refine ao func172 aa ntmps172 aa ?_
 have hrl:=hX.rl
 have hbb:=hX.b.act
 have hbf:=hX.free
 have hbw:∀ v∈X.block.rts,0≤v∧v<18446744073709551616:=fun v hv=>by
  obtain⟨u,_,rfl⟩:=List.mem_map.1 hv
  have:=hX.vb u
  omega
 have hfb:=hX.fb
 have hto:=hX.to_
 refine ac (ab (kPb (aY aa) aa fun b5=>(kPa aa aa (ad (ac (ac (ab (kPm aa aa (kPv (aP aa (xb)) aa (aS [1] (dQ aa (ar call83 aa) (jE B _ bs S 0 0) .free aa aa ?_)))))))))))
 refine kPa aa aa (ad (ac (ab (kPm aa aa (kPv (am aa aa aa) aa (ad (bJ aa (rfl) (aq (ac (ac (cR [0,1,2,4,5,3,6,7] [3,6] [0,1,4,5] [3] [row b5 [i64 c.log,i64 c.roots,i64 c.space] 134] Tryz.mixed (by kernel_rfl) ?_)))))))))))
 refine ak aa aa aa (aj aa) .free aa (ak aa aa aa (ah isAgg134 sizeOf134 aa aa) .free aa ?_)
 refine aQ aa aa aa (aj aa) .free aa (ak aa aa aa (aj aa) .free aa (ak aa aa aa (du aa aa) .free aa (aT aa aa (aS [2] (aI aa (ar call167 aa) (mW B _ x X hX) .free aa aa ?_)))))
 rintro _ _ ⟨bsv,hbsv,rfl,rfl⟩
 refine cE fun qb cb hqb hqi=> ?_
 subst hqb
 refine ad (cN (aT aa aa (aS [4,2] ?_)))
 refine aU aa (ar call205 aa) (xt B _ _ _ bd bs bE (fun b S=>iU b S) _ _ (uJ B bd bs c) c (hK.c▸hK.w.c) X.block (by simp only[bF.block];omega) hbw (by simp only[bF.block,List.length_map];omega) (by simp only[bF.block,List.length_map];omega) (.slice qb X.block.rts.length cb) aa (cQ 0 aa) s (S.fresh 0 0) ⟨hu,hK.n,⟨hK.w,fun _ h=>(by cases h)⟩,hK.d,hK.c⟩) .free rfl rfl ?_ ?_
 rotate_left
 ·rintro _ _ ⟨s9,hm9,rfl,rfl⟩
  exact bi fun w hh=>⟨_,⟨s9,by unfold je ls;rw[show gU gj (X.block.act::X.block.used::X.block.rts) c.active s (S.fresh 0 0)= .off s9 from hm9];rfl,rfl,rfl⟩,hh.dp [1,1,1]⟩
 rintro _ _ ⟨a2,S2,s2,hm2,rfl,hok2,rfl⟩
 obtain⟨hu2,hn2,hw2,hd2,hc2⟩:=hok2
 obtain rfl:=hd2
 refine ad (c7 aa (aQ aa aa aa (bu aa) .free aa (cx (an [10,8,2] rfl (ac (ab (kPm aa aa (kPv (am aa aa aa) aa (ad ?_)))))))))
 refine aZ aa (fun h25=> ?_) (fun h25=> ?_)
 ·have he:a2≠0:=by simpa using h25
  refine ac (ab (kPm aa aa (aS [1,0] ?_)))
  refine aU aa (ar call206 aa) (oE B _ bs S2 s2 hw2) .free aa aa ?_ ?_
  rotate_left
  ·rintro _ _ ⟨s9,hm9,rfl,rfl⟩
   exact bi fun w hh=>⟨_,⟨s9,by unfold je;rw[hm2];simp only[aR];rw[if_pos he,hm9];rfl,rfl,rfl⟩,hh.dp [1,1,1]⟩
  rintro _ _ ⟨S3,s3,hm3,rfl,rfl⟩
  refine ad (ac (ab (kPm aa aa (kPa aa aa (ad (az ?_))))))
  exact au results172 aa (fun w hh=>⟨_,⟨a2,S3,s3,by unfold je;rw[hm2];simp only[aR];rw[if_pos he,hm3];rfl,rfl,rfl⟩,((hh.dp [2,3]).pk [0,1])⟩)
 ·have he:¬ a2≠0:=by simpa using h25
  refine aq (ac (ab (kPm aa aa (aS [1,0] ?_))))
  refine aU aa (ar call89 aa) (nh B _ bs S2 s2 hw2 (by have:=jv _ _ _ _ _ _ _ hm2;simp only[bE.fresh,bF.block,List.length_cons,List.length_map,List.length_nil] at this;omega)) .free aa aa ?_ ?_
  rotate_left
  ·rintro _ _ ⟨s9,hm9,rfl,rfl⟩
   exact bi fun w hh=>⟨_,⟨s9,by unfold je;rw[hm2];simp only[aR];rw[if_neg he,hm9];rfl,rfl,rfl⟩,hh.dp [1,1,1]⟩
  rintro _ _ ⟨S3,s3,hm3,rfl,rfl⟩
  refine kPa aa aa (ad (az ?_))
  exact au results172 aa (fun w hh=>⟨_,⟨0,S3,s3,by unfold je;rw[hm2];simp only[aR];rw[if_neg he,hm3];rfl,rfl,rfl⟩,((hh.dp [2,3]).pk [0,1])⟩)
theorem ed{B:World}{σ:Env}{Fr:List HP}{P:Program}{T:TypeId}{enc:Int→Value}{sv:Value}{xs:List Int}{d:Option Tmp}{ty:TypeId}{p:String}{af:Array Edge}{g:Option (Nat×Bool)}{t:TypeId}{x y:Operand}{at_:Array TypeId}{u:TypeId}{ud:TypeDesc}{ys:List Int}{z yv:Value}
 (ha:at_[0]? =some t) (ha':at_[1]? =some u) (ht:∀ w,(underlying t).run P w= .ok (.slice T) w) (hu:∀ w,(underlying u).run P w= .ok ud w) (hud:∃ q,ud= .slice q) (hs:∀ w,(sizeOf T).run P w= .ok 1 w) (hz:∀ w,(zeroValue T).run P w= .ok z w) (hz1:aM z=true) (he1:∀ v,aM (enc v)=true) (hfb:dY P T)
 (hx:evO σ x=some sv) (hy:evO σ y=some yv) (hr:SlR B Fr yv (ys.map enc)) (hn:xs.length+ys.length≤1000000000):
 Chg P B σ (dE T enc 0 (sv,xs)::Fr) ⟨d,.call ⟨.builtin .append, #[x,y],at_⟩,ty,p,af,g⟩ (fun v' H'=>aM v'=true∧H'=dE T enc 0 (v',xs++ys)::Fr):=by
 by_cases h0:0<ys.length
 ·exact kJ ha ha' ht hu hud hs hz hz1 he1 hfb hx hy hr h0 hn
 obtain rfl:ys=[]:=List.length_eq_zero_iff.1 (by omega)
 intro a w kn hh
 obtain⟨q,rfl⟩:=hud
 obtain⟨sq,scap,e0,_⟩:=hr.ex
 subst e0
 have hf:(Builtin.firstCells 1 0 (.slice sq 0 scap)).run P w= .ok #[] w:=by
  have:=hr.first (P:=P) (w:=w) hh.tail 0 (Nat.zero_le _)
  simpa using this
 have hsl:∃ q n c,sv= .slice q n c∧n≤c:=by
  rcases fK hh with ⟨_,h2,_⟩ | ⟨bd,pre,rest,k,_,h1,_⟩
  ·exact⟨_,_,_,h2,Nat.le_refl _⟩
  ·exact⟨_,_,_,h1,Nat.le_add_right _ _⟩
 obtain⟨q2,n2,c2,rfl,hc2⟩:=hsl
 refine⟨.value (.slice q2 n2 c2),w,?_,_,.inl aa,_,⟨rfl,rfl⟩,by simpa using hh⟩
 simp only[execOp,resolve,Sem.run_bind,Sem.run_pure,Result.andThen_ok]
 simp only[List.map_nil,List.length_nil] at hy
 cases q2<;>simp[invoke,builtin,Builtin.append_,ha,ha',hu,kn.eval hx,kn.eval hy,ht,hs,Builtin.lenOf,hc2,hf,storeCells]
theorem nL{s s':Dev}{i v a:Int}(e:s.store i v= .ok a s'):s'.n=s.n:=by
 unfold Dev.store at e
 split at e
 ·cases e;rfl
 split at e
 ·cases e
 ·cases e;rfl
theorem nR{s s':Dev}{i a:Int}(e:s.flush i= .ok a s'):s'.n=s.n:=by
 unfold Dev.flush at e
 split at e
 ·cases e;rfl
 split at e
 ·cases e
 ·cases e;rfl
theorem nS{s s':Dev}{a:Unit}(e:s.fence= .ok a s'):s'.n=s.n:=by
 unfold Dev.fence at e
 split at e
 ·cases e
 ·cases e;rfl
theorem Aw:∀ (k:Nat) (i a f:Int) (s s':Dev),p7 k i a f s= .ok () s'→s'.n=s.n
 | 0,_,_,_,s,s',e=>by cases e;rfl
 | k+1,i,a,f,s,s',e=>by
   rw[mV] at e
   obtain⟨_,s1,e1,e⟩:=aJ e
   exact(Aw k _ _ _ _ _ e).trans (nL e1)
theorem uk{S:bF}{s s':Dev}{w:Int}{r:Int×bF}(e:S.copied s w= .ok r s'):s'.n=s.n:=by
 unfold bF.copied at e
 split at e
 ·cases e;rfl
 split at e
 ·cases e;rfl
 split at e
 ·cases e;rfl
 obtain⟨_,s1,e1,e⟩:=aJ e
 cases e
 exact Aw _ _ _ _ _ _ e1
theorem rr:∀ (k:Nat) (i:Int) (S S':bF) (s s':Dev),jY k i S s= .ok S' s'→s'.n=s.n
 | 0,_,S,S',s,s',e=>by cases e;rfl
 | k+1,i,S,S',s,s',e=>by
   rw[ij] at e
   split at e
   ·exact rr k _ _ _ _ _ e
   ·obtain⟨r,s1,e1,e⟩:=aJ e
    obtain⟨_,s2,e2,e⟩:=aJ e
    exact((rr k _ _ _ _ _ e).trans (nL e2)).trans (uk e1)
theorem wA:∀ (f:Nat) (i e:Int) (s s':Dev) (a:Unit),l5 f i e s= .ok a s'→s'.n=s.n
 | 0,_,_,s,s',a,e=>by cases e;rfl
 | f+1,i,e',s,s',a,e=>by
   rw[gC] at e
   split at e
   ·obtain⟨_,s1,e1,e⟩:=aJ e
    exact(wA f _ _ _ _ _ e).trans (nR e1)
   ·cases e;rfl
theorem yM{S:bF}{s s':Dev}{r:Bool×bF}(e:S.step s= .ok r s'):s'.n=s.n:=by
 unfold bF.step at e
 split at e
 ·cases e;rfl
 split at e
 ·obtain⟨_,s1,e1,e⟩:=aJ e
  cases e;exact uk e1
 ·split at e
  ·obtain⟨_,s1,e1,e⟩:=aJ e
   cases e;exact rr _ _ _ _ _ _ e1
  ·obtain⟨_,s1,e1,e⟩:=aJ e
   cases e
   unfold bF.keep at e1
   obtain⟨_,s2,e2,e1⟩:=aJ e1
   have h2:=wA _ _ _ _ _ _ e2
   split at e1
   ·exact(nS e1).trans h2
   ·cases e1;exact h2
theorem vZ{S S':bF}{s s':Dev}(e:S.run s= .ok S' s'):s'.n=s.n:=by
 unfold bF.run at e
 revert e
 generalize S.meas+1=f
 intro e
 induction f generalizing S s with
 | zero=>cases e;rfl
 | succ f ih=>
   rw[i6] at e
   obtain⟨r,s1,e1,e⟩:=aJ e
   split at e
   ·cases e;exact yM e1
   ·exact(ih e).trans (yM e1)
theorem t6(B:World)(Fr:List HP)(bs bd:Nat)(S:bE)(c:Cfg)(hc:bA c)(s:Dev)(hu:U64 s)(hK:AM S bd c s)(q:Option Addr)(cap:Nat)(ws:List Int)(hwn:ws.length≤900000)(hws:∀ v∈ws,0≤v∧v<18446744073709551616)(hwl:SlR B Fr (.slice q ws.length cap) (ws.map w64)):
 ∀ w,Holds B (fD bs S::aB bd s::Fr) w→Calls Tryz.prog 116 [ptr bd,dV c,ptr bs,.slice q ws.length cap].toArray w (Ret B (fun rv H'=>∃ r s',eN bd c S s ws= .ok r s'∧((r.1=none∧rv= .tuple #[.pointer none,i64 r.2.1]∧H'=fD bs r.2.2::aB bd s'::Fr)∨(∃ x X,r.1=some X∧r.2.1=0∧rv= .tuple #[ptr x,i64 0]∧H'=eU x X::fD bs r.2.2::aB bd s'::Fr))) (fun ch H'=>∃ s',eN bd c S s ws= .off s'∧ch=dR∧H'=aB bd s'::Fr)):=by
 refine ao func116 aa ntmps116 aa (ac (ab (kPb (aY aa) aa fun b5=>(kPa aa aa (kPa aa aa (ad (ac (ac (ab (kPm aa aa (ay aa (ar call80 aa) (bI (q:=fD) (fun Fr=>mE B Fr bs S)) .free aa aa ?_)))))))))))
 refine ad (bJ aa (rfl) (aq (ac (ab (kPm aa aa (kPv (ah isAgg134 sizeOf134 aa aa) aa ?_))))))
 refine aS [2] (aI aa (ar call117 aa) (fU _ _ _ _ c hc hu) .free aa aa ?_)
 rintro _ _ ⟨sv,hsv,rfl,rfl⟩
 have hbk:=dB (s:=s) hc hu
 have hrl:=fM (s:=s) hc
 refine kPm aa aa (kPv (aA aa aa) aa (kPv (aA aa aa) aa (kPb (aD zeroValue151 aa) aa fun b10=> ?_)))
 refine kPs (ax (vs:=_) sizeOf151 aa aa aa (by first | rfl | exact dW (by assumption)) rfl) rfl ?_;refine kPa aa aa ?_;refine ad ?_;refine an [11,10,9,8,5,0,2,3] rfl ?_;refine ac ?_;refine ac ?_;refine ab ?_;refine kPm aa aa ?_;refine kPv (am aa aa aa) aa ?_;refine ad ?_
 refine aZ aa (fun h23=> ?_) (fun h23=> ?_)
 ·have he:(s.block c).2≠0:=by simpa using h23
  have hres:eN bd c S s ws= .ok (none,(s.block c).2,S) s:=by unfold eN;rw[if_pos he]
  refine ac (ab (kPm aa aa (kPa aa aa (kPa aa aa (ad (az ?_))))))
  exact bU results116 aa aa (fun w hh=>⟨_,⟨_,_,hres,.inl ⟨rfl,rfl,rfl⟩⟩,((hh.dp [0,0,1]).pk [1])⟩)
 ·have he:(s.block c).2=0:=by simpa using h23
  have hrl0:0<(s.block c).1.rts.length:=qY hc he
  refine aS [1] (cE fun qo co hqo hqoi=> ?_)
  subst hqo
  refine aN (H':=cP 0 (.slice qo (s.block c).1.rts.length co,(s.block c).1.rts)::row b10 [i64 (s.block c).1.act,i64 (s.block c).1.used,.slice qo (s.block c).1.rts.length co] 151::aB bd s::row b5 [i64 c.log,i64 c.roots,i64 c.space] 134::fD bs S::Fr) (fun w hh=>by have h:=hh;exact h) (aq (ac (cR [0,1,2,4,5,7,3,6,8,9,10] [3,6,8,9] [0,1,2,4,5,7] [3,6,8] [row b5 [i64 c.log,i64 c.roots,i64 c.space] 134,row b10 [i64 (s.block c).1.act,i64 (s.block c).1.used,.slice qo (s.block c).1.rts.length co] 151] Tryz.mixed (by kernel_rfl) ?_)))
  refine ak aa aa aa (aj aa) .free aa (ak aa aa aa (ah isAgg134 sizeOf134 aa aa) .free aa ?_)
  refine ak aa aa aa (ah isAgg151 sizeOf151 aa aa) .free aa ?_
  refine ak aa aa aa (aE (m:=_) fa aa aa) .free aa (ak aa aa aa (ai isAgg30 aa aa) .free aa (ak aa aa aa (aj aa) .free aa (aT aa aa (kPb (vq runUnderlying30 sizeOf25) aa fun b28=>(aN (H':=cP 0 (.slice (some ⟨b28,0,none⟩) 0 0,[])::_) (fun w hh=>ia (xs:=[]) aa aa hh) (ad (cN (aT aa aa (cI aa (ed (yv:= .slice qo (s.block c).1.rts.length co) (ys:=(s.block c).1.rts) aa aa runUnderlying30 runUnderlying30 ⟨_,rfl⟩ sizeOf25 zeroValue25 aa (fun _=>rfl) gY aa aa (cQ 0 aa) (by simp;omega)) .free aa aa ?_)))))))))
  rintro nv2 _ ⟨hnv2,rfl⟩
  refine ad (cN (aT aa aa (cI aa (ed (yv:= .slice q ws.length cap) (ys:=ws) aa aa runUnderlying30 runUnderlying30 ⟨_,rfl⟩ sizeOf25 zeroValue25 aa (fun _=>rfl) gY aa aa hwl.up (by simp;omega)) .free aa aa ?_)))
  rintro nv3 _ ⟨hnv3,rfl⟩
  refine cE fun qn cn hqn0 hqni=> ?_
  subst hqn0
  have hqn:qn=none→(s.block c).1.rts++ws=[]:=fun e=>by
   cases hl:(s.block c).1.rts++ws with
   | nil=>rfl
   | cons a t=>
     obtain⟨b,o,h⟩:=hqni 0 (by show 0<((s.block c).1.rts++ws).length;rw[hl];exact Nat.succ_pos _)
     rw[e] at h;cases h
  refine ad (cN (aT aa aa (aS [1] (aI aa (ar call133 aa) (r7 B _ bd c hc (s.block c).1 hbk (.slice qo (s.block c).1.rts.length co) aa qn cn ((s.block c).1.rts++ws) (by rw[List.length_append];omega) hqn (cQ 1 aa)) .free aa aa ?_))))
  rintro _ _ ⟨x,rfl,rfl⟩
  have hX0:fj (et bd c (s.block c).1 ((s.block c).1.rts++ws)):=l3 hc hbk hrl (fL hu) (fun v hv=>by
   rcases List.mem_append.1 hv with hv | hv
   ·exact fL hu v hv
   ·exact hws v hv)
  refine ad (c7 aa (aQ aa aa aa (bu aa) .free aa (cx (an [12,9,8,5,0,2] rfl (ac (ab (kPm aa aa (aS [0,2] ?_))))))))
  refine aU aa (ar call135 aa) (w8 B _ x (et bd c (s.block c).1 ((s.block c).1.rts++ws)) hX0 s hu) .free aa aa ?_ ?_
  rotate_left
  ·rintro _ _ ⟨s9,hm9,rfl,rfl⟩
   exact bi fun w hh=>⟨_,⟨s9,by unfold eN;rw[if_neg (by omega)];rw[hm9];rfl,rfl,rfl⟩,hh.dp [1,1,1,1]⟩
  rintro _ _ ⟨X,s1,hm1,rfl,rfl⟩
  obtain⟨hX,hu1,hXb,hXbd,hXc,hXto⟩:=oH _ _ _ _ _ hX0 hu hm1
  have hn1:=vZ hm1
  refine ad (ac (ac (ab (kPm aa aa (kPv (ah isAgg134 sizeOf134 aa aa) aa ?_)))))
  refine kPm aa aa (kPm aa aa (aS [5,0,0] ?_))
  refine aU aa (ar call172 aa) (wR B _ bs x bd S X hX (by rw[hXb];exact hrl0) c s1 hu1 ⟨hK.w,by rw[hn1];exact hK.n,hK.d,hK.c⟩) .free aa aa ?_ ?_
  rotate_left
  ·rintro _ _ ⟨s9,hm9,rfl,rfl⟩
   exact bi fun w hh=>⟨_,⟨s9,by unfold eN;rw[if_neg (by omega)];rw[hm1];simp only[aR];rw[hm9];rfl,rfl,rfl⟩,hh.dp [1,1,1]⟩
  rintro _ _ ⟨a2,S2,s2,hm2,rfl,rfl⟩
  refine kPa aa aa (ad (an [13,12,9,8] rfl (ac (ab (kPm aa aa (kPv (am aa aa aa) aa (ad ?_)))))))
  refine aZ aa (fun h43=> ?_) (fun h43=> ?_)
  ·have ha2:a2≠0:=by simpa using h43
   refine ac (ab (kPm aa aa (kPa aa aa (kPa aa aa (ad (az ?_))))))
   exact bU results116 aa aa (fun w hh=>⟨_,⟨(none,a2,S2),s2,by unfold eN;rw[if_neg (by omega),hm1];simp only[aR];rw[hm2];simp only[aR];rw[if_pos ha2],.inl ⟨rfl,rfl,rfl⟩⟩,(hh.dp [1,2,2,2])⟩)
  ·have ha2:¬ a2≠0:=by simpa using h43
   refine aq (ac (ab (kPm aa aa (kPa aa aa (kPa aa aa (ad (az ?_)))))))
   exact bU results116 aa aa (fun w hh=>⟨_,⟨(some X,0,S2),s2,by unfold eN;rw[if_neg (by omega),hm1];simp only[aR];rw[hm2];simp only[aR];rw[if_neg ha2],.inr ⟨x,X,rfl,rfl,rfl,rfl⟩⟩,((hh.dp [3,3,3]).pk [1])⟩)
theorem og{L L':bR}{s s':Dev}(hL:dG L)(e:L.truncate s= .ok L' s'):(U64 s→U64 s')∧s'.n=s.n∧dG L'∧L'.d=L.d∧L'.c=L.c∧L'.n=0:=by
 unfold bR.truncate at e
 split at e
 ·rename_i h;cases e;exact⟨id,rfl,hL,rfl,rfl,h⟩
 obtain⟨_,s1,e1,e⟩:=aJ e
 obtain⟨_,s2,e2,e⟩:=aJ e
 obtain⟨_,s3,e3,e⟩:=aJ e
 cases e
 have h1:=hL.c.l1;have h2:=hL.c.r1
 refine⟨fun hu=> ?_,((nS e3).trans (nR e2)).trans (nL e1),⟨hL.c,by simp only;omega,by simp only;omega,Int.le_refl 0,by simp only;omega⟩,rfl,rfl,rfl⟩
 exact(eP (dI (cy hu (by omega) e1).1 e2).1 e3).1
theorem y7{c:Cfg}:∀ (k:Nat) (s s':Dev),lh jX c k s= .ok () s'→(U64 s→U64 s')∧s'.n=s.n
 | 0,s,s',e=>by cases e;exact⟨id,rfl⟩
 | k+1,s,s',e=>by
   unfold lh at e
   obtain⟨_,s1,e1,e⟩:=aJ e
   unfold jX at e1
   obtain⟨_,s2,e2,e1⟩:=aJ e1
   obtain⟨_,s3,e3,e1⟩:=aJ e1
   cases e1
   obtain⟨g1,g2⟩:=y7 k s1 s' e
   exact⟨fun hu=>g1 (dI (cy hu (hu.load _) e2).1 e3).1,g2.trans ((nR e3).trans (nL e2))⟩
theorem yF{L L':bR}{s s':Dev}(hL:dG L)(e:L.undo s= .ok L' s'):(U64 s→U64 s')∧s'.n=s.n∧dG L'∧L'.d=L.d∧L'.c=L.c∧L'.n=0:=by
 unfold bR.undo at e
 obtain⟨_,s1,e1,e⟩:=aJ e
 obtain⟨_,s2,e2,e⟩:=aJ e
 obtain⟨g1,g2⟩:=y7 _ _ _ e1
 obtain⟨h1,h2,h3,h4,h5,h6⟩:=og hL e
 have k:(U64 s1→U64 s2)∧s2.n=s1.n:=by
  split at e2
  ·exact⟨fun hu=>(eP hu e2).1,nS e2⟩
  ·cases e2;exact⟨id,rfl⟩
 exact⟨fun hu=>h1 (k.1 (g1 hu)),(h2.trans k.2).trans g2,h3,h4,h5,h6⟩
theorem pC:∀ (l:List Int) (s s':Dev),dz l s= .ok () s'→(U64 s→U64 s')∧s'.n=s.n
 | [],s,s',e=>by cases e;exact⟨id,rfl⟩
 | k::ks,s,s',e=>by
   unfold dz at e
   obtain⟨_,s1,e1,e⟩:=aJ e
   obtain⟨g1,g2⟩:=pC ks s1 s' e
   exact⟨fun hu=>g1 (dI hu e1).1,g2.trans (nR e1)⟩
theorem ul{S S':bE}{s s':Dev}(hL:dG S.L)(e:S.commit s= .ok S' s'):(U64 s→U64 s')∧s'.n=s.n∧dG S'.L∧S'.L.d=S.L.d∧S'.L.c=S.L.c∧S'.L.n=0:=by
 unfold bE.commit at e
 obtain⟨_,s1,e1,e⟩:=aJ e
 obtain⟨_,s2,e2,e⟩:=aJ e
 obtain⟨_,s3,e3,e⟩:=aJ e
 cases e
 obtain⟨g1,g2⟩:=pC _ _ _ e1
 obtain⟨h1,h2,h3,h4,h5,h6⟩:=og hL e3
 have k:(U64 s1→U64 s2)∧s2.n=s1.n:=by
  split at e2
  ·exact⟨fun hu=>(eP hu e2).1,nS e2⟩
  ·cases e2;exact⟨id,rfl⟩
 exact⟨fun hu=>h1 (k.1 (g1 hu)),(h2.trans k.2).trans g2,h3,h4,h5,h6⟩
theorem B3{S S':bE}{s s':Dev}(hL:dG S.L)(e:S.abort s= .ok S' s'):(U64 s→U64 s')∧s'.n=s.n∧dG S'.L∧S'.L.d=S.L.d∧S'.L.c=S.L.c∧S'.L.n=0:=by
 unfold bE.abort at e
 obtain⟨_,s1,e1,e⟩:=aJ e
 cases e
 exact yF hL e1
theorem oa:∀ (l:List Int) (i:Int) (S S':bE) (s s':Dev) (a:Int),(∀ v∈l,0≤v∧v<18446744073709551616)→lK S→U64 s→s.n≤1000000→gU gj l i s S= .ok (a,S') s'→U64 s'∧s'.n=s.n∧dG S'.L∧S'.L.d=S.L.d∧S'.L.c=S.L.c
 | [],i,S,S',s,s',a,_,hS,hu,_,e=>by cases e;exact⟨hu,rfl,hS.L,rfl,rfl⟩
 | v::vs,i,S,S',s,s',a,hv,hS,hu,hn,e=>by
   unfold gU at e
   split at e
   ·exact oa vs _ _ _ _ _ _ (fun v hv'=>hv v (List.mem_cons_of_mem _ hv')) hS hu hn e
   ·obtain⟨⟨x,S1⟩,s1,e1,e⟩:=aJ e
    have h1:=jB hS hu hn (hv v (List.mem_cons_self ..)) e1
    have h2:=ka hS.L e1
    have h3:=oh e1
    have h4:lK S1:=rg hS hn (by have:=(AK hS.L.c).1;omega) e1 h2
    split at e
    ·cases e;exact⟨h1.1,h1.2,h2,h3.1,h3.2.1⟩
    ·obtain⟨g1,g2,g3,g4,g5⟩:=oa vs _ _ _ _ _ _ (fun v hv'=>hv v (List.mem_cons_of_mem _ hv')) h4 h1.1 (by rw[h1.2];exact hn) e
     exact⟨g1,g2.trans h1.2,g3,g4.trans h3.1,g5.trans h3.2.1⟩
theorem Bu{S:bE}(h:dG S.L)(f t:Int):lK (S.fresh f t):=⟨h,fun p hp=>(List.not_mem_nil (show p∈([]:List (Int×Unit)) from hp)).elim⟩
theorem zO{c:Cfg}{b:Blk}{S S':bE}{s s':Dev}{a:Int}(hb:∀ v∈b.act::b.used::b.rts,0≤v∧v<18446744073709551616)(hL:dG S.L)(hu:U64 s)(hn:s.n≤1000000)(e:je c b S s= .ok (a,S') s'):U64 s'∧s'.n=s.n∧dG S'.L∧S'.L.d=S.L.d∧S'.L.c=S.L.c∧S'.L.n=0:=by
 unfold je ls at e
 obtain⟨⟨x,S1⟩,s1,e1,e⟩:=aJ e
 obtain⟨g1,g2,g3,g4,g5⟩:=oa _ _ _ _ _ _ _ hb (Bu hL 0 0) hu hn e1
 split at e
 ·obtain⟨S2,s2,e2,e⟩:=aJ e
  cases e
  obtain⟨h1,h2,h3,h4,h5,h6⟩:=B3 g3 e2
  exact⟨h1 g1,h2.trans g2,h3,h4.trans g4,h5.trans g5,h6⟩
 ·obtain⟨S2,s2,e2,e⟩:=aJ e
  cases e
  obtain⟨h1,h2,h3,h4,h5,h6⟩:=ul g3 e2
  exact⟨h1 g1,h2.trans g2,h3,h4.trans g4,h5.trans g5,h6⟩
theorem un{X:bF}(h:fj X):∀ v∈X.block.act::X.block.used::X.block.rts,0≤v∧v<18446744073709551616:=fun v hv=>by
 have h1:=h.b.act;have h2:=h.free;have h3:=h.fb;have h4:=h.to_
 simp only[List.mem_cons] at hv
 rcases hv with rfl | rfl | hv
 ·simp only[bF.block];omega
 ·simp only[bF.block];omega
 ·obtain⟨u,_,rfl⟩:=List.mem_map.1 hv
  have:=h.vb u
  omega
theorem x9{bd:Nat}{c:Cfg}{S:bE}{s s':Dev}{ws:List Int}{r:Option bF×Int×bE}(hc:bA c)(hw:∀ v∈ws,0≤v∧v<18446744073709551616)(hL:dG S.L)(hu:U64 s)(hn:s.n≤1000000)(hL0:S.L.n=0)(e:eN bd c S s ws= .ok r s'):U64 s'∧s'.n=s.n∧dG r.2.2.L∧r.2.2.L.d=S.L.d∧r.2.2.L.c=S.L.c∧r.2.2.L.n=0∧(∀ X,r.1=some X→fj X):=by
 unfold eN at e
 split at e
 ·cases e;exact⟨hu,rfl,hL,rfl,rfl,hL0,fun _ h=>by cases h⟩
 obtain⟨X,s1,e1,e⟩:=aJ e
 have hX0:fj (et bd c (s.block c).1 ((s.block c).1.rts++ws)):=l3 hc (dB hc hu) (fM hc) (fL hu) fun v hv=>by
  rcases List.mem_append.1 hv with hv | hv
  ·exact fL hu v hv
  ·exact hw v hv
 obtain⟨hX,u1,_⟩:=oH _ _ _ _ _ hX0 hu e1
 have n1:=vZ e1
 obtain⟨⟨a,S2⟩,s2,e2,e⟩:=aJ e
 obtain⟨g1,g2,g3,g4,g5,g6⟩:=zO (un hX) hL u1 (by rw[n1];exact hn) e2
 split at e
 ·cases e;exact⟨g1,g2.trans n1,g3,g4,g5,g6,fun _ h=>by cases h⟩
 ·cases e;exact⟨g1,g2.trans n1,g3,g4,g5,g6,fun X' h=>by cases h;exact hX⟩
theorem xH(B:World)(H:List HP)(r:Nat):
 ∀ w,Holds B H w→Calls Tryz.prog 155 [.map (some r)].toArray w (Ret B (fun v H'=>∃ bb,v= .func (.func 197) [].toArray [ptr bb].toArray∧H'=row bb [.map (some r)] 196::H) (fun _ _=>False)):=by
 refine ao func155 aa ntmps155 aa (ac (ab (kPb (dH aa aa) aa fun b1=>(kPa aa aa (ad (ac (ab (kPv (du aa aa) aa (kPa aa aa (ad (az ?_)))))))))))
 exact au results155 aa (fun w hw=>⟨_,⟨_,rfl,rfl⟩,hw⟩)
theorem u5(B:World)(Fr:List HP)(l f mr bb b2:Nat)(ml:List (Int×Int))(r:Loop)(hrf:r.fn=f)(hrp:r.params.size=1)(hround:∀ (A1 A2:HP) (v:Int) (xs:List Int),xs.length<ml.length→∀ w,Holds B (blk l (.loop r)::A1::A2::j3 b2 xs::Fr) w→RoundIn (Wd (cxF f)) 0 Tryz.prog l f ((r.params.zip [i64 v].toArray).foldl (fun tmps (t,a)=>tmps.setIfInBounds t a) r.tmps) r.assign r.body w (Ret B (fun rv H'=>rv= .bool true∧H'=blk l (.loop r)::A1::A2::j3 b2 (xs++[v])::Fr) (fun _ _=>False))):
 ∀ w,Holds B (blk l (.loop r)::row bb [.map (some mr)] 196::bz .i64 i64 mr ml::j3 b2 []::Fr) w→Calls Tryz.prog 197 [.func (.yield l) #[] #[],ptr bb].toArray w (Ret B (fun rv H'=>∃ ks:List Int,ks.Perm (ml.map Prod.fst)∧H'=blk l (.loop r)::row bb [.map (some mr)] 196::bz .i64 i64 mr ml::j3 b2 ks::Fr) (fun _ _=>False)):=by
 refine ao func197 aa ntmps197 aa (ac (ab (kPv (ai isAgg196 aa aa) aa (kPb (mz runUnderlying196 aa) aa fun it=>(ad (aF (dq (ι:=List (Int×Int)) (fun d=>d.length≤ml.length) (fun d=>[(0,.func (.yield l) #[] #[]),(1,ptr bb),(5,.pointer (some ⟨it,0,none⟩))]) (fun done=>blk l (.loop r)::row bb [.map (some mr)] 196::fJ .i64 i64 mr it ml done::j3 b2 (done.map Prod.fst)::Fr) (fun d=>ml.length - d.length) [] (Nat.zero_le _) (fun a w st=>st.to ⟨rfl,rfl,rfl,trivial⟩ id) ?_)))))))
 intro done hdone
 refine ac (ab (cI aa (nV aa) .free aa aa ?_))
 rintro _ _ ⟨bb0,vs,done',rfl,hvs,rfl,hno,hyes⟩
 refine kPv (aA aa hvs) aa (ad (ac ?_))
 refine aZ aa (fun h7=> ?_) (fun h7=> ?_)
 ·obtain⟨pp,hpl,hpn,rfl⟩:=hyes h7
  refine iG it fun hl hd hsub=>(aq (aF (ac (ab (kPv (mu (p0:=pp) (dn:=done) aa) aa (kPv (aA aa aa) aa (kPa aa aa (ad (ac (ab (kPm aa aa ?_)))))))))))
  refine kPm aa aa ?_
  refine fV (f:=f) aa aa (fun w hw=>hw) (by rw[hrp];rfl) hrf (hround _ _ _ _ (by have:=iF hd hsub;simp;omega)) .free aa ?_ ?_
  rotate_left
  ·rintro _ _ ⟨⟩
  rintro _ _ ⟨rfl,rfl⟩
  refine kPv (bx aa) aa (ad (an [13,5,0,1] rfl (bJ aa (rfl) (aq ?_))))
  have hle:=iF hd hsub
  exact fun a w st=>⟨done++[pp],by simp;omega,by simp;omega,st.to ⟨rfl,rfl,rfl,trivial⟩ (fun hh=>by rw[List.map_append];exact hh)⟩
 ·obtain⟨rfl,hall⟩:=hno h7
  refine iG it fun hl hd hsub=>(aN (fun w hh=>hh.iter_end it) (bC ?_))
  exact cS results197 (fun w hh=>⟨_,⟨_,(List.perm_ext_iff_of_nodup hd hl).2 fun x=>⟨fun hx=>by obtain⟨p,hp,rfl⟩:=List.mem_map.1 hx;exact List.mem_map_of_mem (hsub p hp),fun hx=>by obtain⟨p,hp,rfl⟩:=List.mem_map.1 hx;exact List.mem_map_of_mem (hall p hp)⟩,rfl⟩,hh⟩)
theorem vJ(B:World)(Fr:List HP)(mr bb:Nat)(ml:List (Int×Int))(hml:ml.length≤1000000):
 ∀ w,Holds B (row bb [.map (some mr)] 196::bz .i64 i64 mr ml::Fr) w→Calls Tryz.prog 211 [.slice none 0 0,.func (.func 197) [].toArray [ptr bb].toArray].toArray w (Ret B (fun rv H'=>∃ ks:List Int,ks.Perm (ml.map Prod.fst)∧H'=iC 0 (rv,ks)::bz .i64 i64 mr ml::Fr) (fun _ _=>False)):=by
 refine eJ func211 aa ntmps211 aa (ac (ab (kPb (dH aa aa) aa fun b2=>(kPa aa aa (ad (ac (ac (ab (kPm aa aa (ad (aF ?_)))))))))))
 refine pt (ι:=List Int) (fun ks=>row bb [.map (some mr)] 196::bz .i64 i64 mr ml::j3 b2 ks::Fr) (fun ks=>ks.Perm (ml.map Prod.fst)) (fun _=>False) [] rfl call197 ?_ ?_ ?_
 ·intro l m tmps hts hkn w hh
  have hk2:=hkn 2 _ rfl
  refine(u5 B (blk m (.deferred (some []))::Fr) l 211 mr bb b2 ml _ aa aa ?_ w (((((xe ((((hh.front 4 aa).front 4 aa).front 2 aa).front 4 aa)).front 0 aa).front 3 aa).front 3 aa).front 3 aa)).mono (Ret.mono ?_ ?_)
  rotate_left
  ·rintro v H' ⟨ks,hks,rfl⟩
   exact⟨ks,hks,fun w hh=>((hh.front 4 aa).front 1 aa)⟩
  ·rintro c H' ⟨⟩
  intro A1 A2 v xs hxs
  have hxs:xs.length≤1000000:=by omega
  refine gN (n:=13) (σ:=[(7,i64 v),(2,ptr b2)]) func211 (by simp[fP,hts]) (KnA.knows (by simp[KnA,fP,hts];exact(Array.getElem?_eq_some_iff.1 hk2).2)) aa ?_;refine ab ?_;refine kPa aa aa ?_;refine ad ?_;refine kv ?_;refine dm 3 aa ?_
  refine zG (fun hxe=> ?_) (fun bd rest=> ?_)
  ·subst hxe
   refine aF (ab (kPv (ai isAgg166 aa aa) aa (kPm aa aa (kPb (fB runUnderlying166 sizeOf3 zeroValue3 aa aa aa) aa fun b1=>(cI aa (gK aa aa runUnderlying166 runUnderlying166 ⟨_,rfl⟩ sizeOf3 zeroValue3 aa yH aa aa (SlR.row (xs:=[i64 v]) aa aa) (by simp) (by simp)) .free aa aa ?_)))))
   rintro _ _ ⟨bn,cn,rest',hcn,hrest,rfl,rfl⟩
   refine kPs (aO sizeOf166 aa aa aa aa) aa (ad (an [] rfl (dm 3 aa ?_)))
   exact ku fun w hh=>⟨_,⟨rfl,rfl⟩,((((((nZ (xs:=[]++[v]) (by simp) (by first | omega | (simp at*;omega)) ((hh.front 1 aa).front 3 aa)).front 2 aa).tail.front 0 aa).front 3 aa).front 3 aa).front 3 aa)⟩
  ·skip
   refine aF (ab (kPv (ai isAgg166 aa aa) aa (kPm aa aa (kPb (fB runUnderlying166 sizeOf3 zeroValue3 aa aa aa) aa fun b1=>(cI aa (jo aa aa runUnderlying166 runUnderlying166 ⟨_,rfl⟩ sizeOf3 zeroValue3 aa yH aa aa (SlR.row (xs:=[i64 v]) aa aa) (by simp) (by omega) (by simp;omega) aa) .free aa aa (fun v2 H2 hY=> ?_))))))
   revert hY
   generalize hob:Obj.loop _=ob
   intro hY
   have hY2:∃ bn c' rest',c'=xs.length+1+rest'.length∧v2= .slice (some ⟨bn,0,none⟩) (xs.length+1) c'∧∀ w,Holds B H2 w→Holds B (row b2 [.slice (some ⟨bd,0,none⟩) xs.length (xs.length+rest.length)] 166::row bn ((xs++[v]).map i64++rest') 3::blk l ob::A1::A2::blk m (.deferred (some []))::Fr) w:=by
    rcases hY with ⟨h1,rfl,rfl⟩ | ⟨h1,bn,cn,rest',h2,_,rfl,rfl⟩
    ·refine⟨bd,_,rest.drop 1,by simp at h1 ⊢;omega,rfl,fun w hh=> ?_⟩
     have h3:=hh.tail
     rw[xd (by simp at h1;omega)] at h3
     exact h3
    ·refine⟨bn,_,rest',by simpa using h2.symm,rfl,fun w hh=> ?_⟩
     have h3:=((((hh.front 1 rfl).tail).front 2 rfl).tail).front 1 rfl
     have e:(xs++[v]).map i64++rest'=((xs.map i64++rest).drop 0).take xs.length++[i64 v]++rest':=by simp
     rw[e]
     exact h3
   obtain⟨bn,c',rest',hc',rfl,hY3⟩:=hY2
   refine aN hY3 (kPs (aO sizeOf166 aa aa aa aa) aa (ad (an [] rfl ?_)))
   subst hob
   refine dm 2 aa ?_
   exact ku fun w hh=>⟨_,⟨rfl,rfl⟩,(((((nZ (xs:=xs++[v]) (by simp) (by first | omega | (simp at*;omega)) ((hh.front 2 aa).front 2 aa)).front 0 aa).front 3 aa).front 3 aa).front 3 aa)⟩
 rotate_left
 ·rintro m x ⟨⟩
 intro m ks hks
 refine dm 3 aa (wM fun sv=>(ac (ab (kPv (ai isAgg166 aa aa) aa (kPa aa aa (ad (az ?_)))))))
 exact fF results211 aa (.cons (i:=2) aa .nil) (fun w hh=>⟨_,⟨ks,hks,rfl⟩,(((hh.front 3 aa).front 3 aa).front 2 aa).tail.tail.tail⟩)
theorem um(B:World)(Fr:List HP)(mr bb:Nat)(ml:List (Int×Int))(hml:ml.length≤1000000):
 ∀ w,Holds B (row bb [.map (some mr)] 196::bz .i64 i64 mr ml::Fr) w→Calls Tryz.prog 191 [.func (.func 197) [].toArray [ptr bb].toArray].toArray w (Ret B (fun rv H'=>∃ ks:List Int,ks.Perm (ml.map Prod.fst)∧H'=iC 0 (rv,ks)::bz .i64 i64 mr ml::Fr) (fun _ _=>False)):=by
 refine ao func191 aa ntmps191 aa (ac (ab (kPa aa aa (ad (ac (ab (kPm aa aa (aI aa (ar call211 aa) (vJ _ _ mr bb ml hml) .free aa aa ?_))))))))
 rintro _ _ ⟨ks,hks,rfl⟩
 refine kPa aa aa (ad (az ?_))
 exact au results191 aa (fun w hw=>⟨_,⟨ks,hks,rfl⟩,hw⟩)
theorem uM(B:World)(Fr:List HP)(mr bb:Nat)(ml:List (Int×Int))(hml:ml.length≤1000000):
 ∀ w,Holds B (row bb [.map (some mr)] 196::bz .i64 i64 mr ml::Fr) w→Calls Tryz.prog 149 [.func (.func 197) [].toArray [ptr bb].toArray].toArray w (Ret B (fun rv H'=>H'=iC 0 (rv,cj (ml.map Prod.fst))::bz .i64 i64 mr ml::Fr) (fun _ _=>False)):=by
 refine ao func149 aa ntmps149 aa (ac (ab (kPa aa aa (ad (ac (ab (kPm aa aa (aI aa (ar call191 aa) (um _ _ mr bb ml hml) .free aa aa ?_))))))))
 rintro v5 _ ⟨ks,hks,rfl⟩
 have hkl:ks.length≤1000000:=by rw[hks.length_eq,List.length_map];exact hml
 refine kPa aa aa (ad (ac (ab (kPm aa aa (aI aa (ar call192 aa) (sM _ _ _ ks hkl) .free aa aa ?_)))))
 rintro _ _ rfl
 refine ad (ac (ab (kPm aa aa (kPa aa aa (ad (an [2] rfl (az ?_)))))))
 exact au results149 aa (fun w hw=>⟨_,rfl,by rw[←ox hks];exact hw⟩)
structure gG where
 at_:List (Int×Int)
 no:List (Int×Int)
 last:Int
def gg(b:Nat)(T:gG):HP:=hex fun (x:Nat×Nat)=>grp [row b [.map (some x.1),.map (some x.2),i64 T.last] 198,bz .i64 i64 x.1 T.at_,bz .i64 i64 x.2 T.no]
theorem rN{B:World}{n:Nat}{D:List Deferred}{σ:Env}{b:Nat}{T:gG}{Fr:List HP}{K:Act→World→Prop}(h:∀ b1 b2,GO B n D σ (row b [.map (some b1),.map (some b2),i64 T.last] 198::bz .i64 i64 b1 T.at_::bz .i64 i64 b2 T.no::Fr) K):GO B n D σ (gg b T::Fr) K:=fun a w st=>by
 obtain⟨x,hx⟩:=st.holds.hex
 exact h _ _ a w ⟨st.toStA,hx.grp⟩
theorem gt{B:World}{b b1 b2:Nat}{T:gG}{Fr:List HP}{w:World}(h:Holds B (row b [.map (some b1),.map (some b2),i64 T.last] 198::bz .i64 i64 b1 T.at_::bz .i64 i64 b2 T.no::Fr) w):Holds B (gg b T::Fr) w:=
 Holds.unhex (b1,b2) (Holds.ungrp (l:=[row b [.map (some b1),.map (some b2),i64 T.last] 198,bz .i64 i64 b1 T.at_,bz .i64 i64 b2 T.no]) h)
theorem wF(B:World)(H:List HP):
 ∀ w,Holds B H w→Calls Tryz.prog 71 [].toArray w (Ret B (fun rv H'=>∃ b,rv=ptr b∧H'=gg b ⟨[],[],0⟩::H) (fun _ _=>False)):=by
 refine ao func71 aa ntmps71 aa (ac (ab (kPa aa aa (ad (ac (ab (kPb (dU .i64 i64) aa fun b1=>(kPb (dU .i64 i64) aa fun b2=> ?_))))))))
 refine al aa (aP aa (uw _ _ (by first | rfl | assumption) (by first | rfl | assumption))) .free rfl rfl ?_;refine kPb (aY aa) aa fun b4=> ?_;refine kPa aa aa ?_;refine ad ?_;refine az ?_
 exact au results71 aa (fun w hh=>⟨_,⟨_,rfl,rfl⟩,gt (T:=⟨[],[],0⟩) ((hh.front 2 aa).back 1 (by simp))⟩)
theorem qI(B:World)(Fr:List HP)(b:Nat)(T:gG)(n:Int):
 ∀ w,Holds B (gg b T::Fr) w→Calls Tryz.prog 146 [ptr b,i64 n].toArray w (a8 B (gg b T::Fr) (.tuple #[i64 ((bP T.at_ n).getD 0),.bool (bP T.at_ n).isSome])):=by
 refine ao func146 aa ntmps146 aa (rN fun b1 b2=>(ac (ab (kPa aa aa (kPa aa aa (ad (ac (ab (kPf ji isAgg196 aa aa aa aa (kPm aa aa (kPv ((fy runUnderlying196 runUnderlying3 zeroValue3 aa aa).eq (congrArg (fun v=>Value.tuple #[v,.bool _]) (o7 _))) aa ?_)))))))))))
 refine kPm aa aa (kPv (aA aa aa) aa (kPv (aA aa aa) aa (kPa aa aa (kPa aa aa (ad (an [7,6,5,4] rfl (ac (ab (kPm aa aa (kPm aa aa (kPa aa aa ?_)))))))))))
 refine kPa aa aa (ad (az ?_))
 exact bU results146 aa aa (fun w hh=>⟨rfl,gt hh⟩)
theorem tw{α:Type}{k:Int}{z u:α}:∀ {l:List (Int×α)},(∀ p∈l,p.1≠k)→mset (l++[(k,z)]) k u=l++[(k,u)]
 | [],_=>by simp[mset]
 | p::l,h=>by
   simp only[List.cons_append,mset]
   rw[if_neg (h p (List.mem_cons_self ..)),tw fun q hq=>h q (List.mem_cons_of_mem _ hq)]
theorem jI{α:Type}{k:Int}{z u:α}{l:List (Int×α)}:mset (jL l k z) k u=mset l k u:=by
 unfold jL
 cases hc:fH l k 0 with
 | none=>rw[jK hc];exact tw (gP hc)
 | some v=>rfl
def gG.take(T:gG)(p:Int):Int×gG:=
 if p=0 then (0,T) else if (bP T.no p).isSome=true then ((bP T.no p).getD 0,T)
 else (T.last+1,⟨mset T.at_ (T.last+1) p,mset T.no p (T.last+1),T.last+1⟩)
theorem kt(B:World)(Fr:List HP)(b:Nat)(T:gG)(p:Int)(hT:0≤T.last∧T.last≤1000000000):
 ∀ w,Holds B (gg b T::Fr) w→Calls Tryz.prog 72 [ptr b,i64 p].toArray w (Ret B (fun rv H'=>rv=i64 (T.take p).1∧H'=gg b (T.take p).2::Fr) (fun _ _=>False)):=by
 refine ao func72 aa ntmps72 aa (rN fun b1 b2=>(ac (ab (kPa aa aa (ad (ac (ac (ab (kPm aa aa (kPv (am aa aa aa) aa (ad ?_)))))))))))
 refine aZ aa (fun h8=> ?_) (fun h8=> ?_)
 ·have hk:p=0:=by simpa using h8
  have hres:T.take p=(0,T):=by unfold gG.take;rw[if_pos hk]
  refine ac (ab (kPa aa aa (ad (az ?_))))
  exact au results72 aa (fun w hh=>⟨_,⟨by rw[hres],rfl⟩,by rw[hres];exact gt hh⟩)
 ·have hk:¬ p=0:=by simpa using h8
  refine aq (ac (ac (ab (kPf mm isAgg196 aa aa aa aa (kPm aa aa (kPv ((fy runUnderlying196 runUnderlying3 zeroValue3 aa aa).eq (congrArg (fun v=>Value.tuple #[v,.bool _]) (o7 _))) aa (kPm aa aa (kPv (aA aa aa) aa (kPv (aA aa aa) aa (kPa aa aa (kPa aa aa ?_)))))))))))
  refine ad (an [6,5,4,0,1] rfl (ac (ab (kPm aa aa (ad ?_)))))
  refine aZ aa (fun h18=> ?_) (fun h18=> ?_)
  ·have hres:T.take p=((bP T.no p).getD 0,T):=by unfold gG.take;rw[if_neg hk,if_pos h18]
   refine ac (ab (kPm aa aa (kPa aa aa (ad (az ?_)))))
   exact au results72 aa (fun w hh=>⟨_,⟨by rw[hres];rfl,rfl⟩,by rw[hres];exact gt hh⟩)
  ·have hres:T.take p=(T.last+1,⟨mset T.at_ (T.last+1) p,mset T.no p (T.last+1),T.last+1⟩):=by unfold gG.take;rw[if_neg hk,if_neg (by rw[h18];decide)]
   refine aq (ac (ab (kPf kz isAgg3 aa aa aa aa (kPv (aL aa aa) aa (kPv (aK aa) aa (kPv (aE (m:=_) kz aa aa) aa (kPs (aO sizeOf3 aa aa aa aa) aa (ad (an [4,0,1] rfl (ac (cR [0,1,2,3,4,5,6,7,8,9,10,11,12,13,14,15,16,17,18,19,20,21,22,23] [18,20,21,23] [12,13] [18,20] [] Tryz.mixed (by kernel_rfl) ?_)))))))))))
   refine aQ aa aa aa (aj aa) .free aa (aQ aa aa aa (aK aa) .free aa (aQ aa aa aa (aE (m:=_) ji aa aa) .free aa (aQ aa aa aa (ai isAgg196 aa aa) .free aa (aQ aa aa aa (aj aa) .free aa (aQ aa aa aa (aK aa) .free aa (aQ aa aa aa (aE (m:=_) kz aa aa) .free aa (aQ aa aa aa (ai isAgg3 aa aa) .free aa (aQ aa aa aa (aj aa) .free aa (aQ aa aa aa (aK aa) .free aa (aQ aa aa aa (aE (m:=_) mm aa aa) .free aa (aQ aa aa aa (ai isAgg196 aa aa) .free aa ?_)))))))))))
   refine ak aa aa aa (aj aa) .free aa (ak aa aa aa (aj aa) .free aa (aQ aa aa aa (aj aa) .free aa (aQ aa aa aa (aK aa) .free aa (aQ aa aa aa (aE (m:=_) kz aa aa) .free aa (aQ aa aa aa (ai isAgg3 aa aa) .free aa (aT aa aa (dm 1 aa ?_)))))))
   simp only[List.eraseIdx_cons_succ,List.eraseIdx_cons_zero]
   refine cI aa (iK (u0:=(0:Int)) runUnderlying196 runUnderlying3 zeroValue3 aa aa) .free aa aa ?_
   rintro _ _ ⟨z1,st1,rfl,rfl⟩
   refine ad (cN (aQ aa aa aa (aA aa aa) .free aa (aT aa aa (kPs (gJ aa aa aa aa) aa (ad (cN (aT aa aa (dm 2 aa ?_))))))))
   simp only[List.eraseIdx_cons_succ,List.eraseIdx_cons_zero]
   refine cI aa (iK (u0:=(0:Int)) runUnderlying196 runUnderlying3 zeroValue3 aa aa) .free aa aa ?_
   rintro _ _ ⟨z2,st2,rfl,rfl⟩
   refine ad (c7 aa (aQ aa aa aa (aA aa aa) .free aa (aT aa aa (kPs (gJ aa aa aa aa) aa (ad (c7 aa (cx (an [4,0] rfl (ac (ab (kPf kz isAgg3 aa aa aa aa ?_)))))))))))
   refine kPa aa aa (ad (az ?_))
   exact au results72 aa (fun w hh=>⟨_,⟨by rw[hres],rfl⟩,by rw[hres];rw[jI,jI] at hh;exact gt (T:=⟨_,_,_⟩) ((hh.front 1 aa).front 2 aa)⟩)
theorem nq(B:World)(Fr:List HP)(b:Nat)(T:gG)(hTl:T.at_.length≤1000000):
 ∀ w,Holds B (gg b T::Fr) w→Calls Tryz.prog 92 [ptr b].toArray w (Ret B (fun rv H'=>H'=iC 0 (rv,cj (T.at_.map Prod.fst))::gg b T::Fr) (fun _ _=>False)):=by
 refine ao func92 aa ntmps92 aa (rN fun b1 b2=>(ac (ab (kPa aa aa (ad (ac (ab (kPf ji isAgg196 aa aa aa aa (aI aa (ar call155 aa) (xH _ _ _) .free aa aa ?_)))))))))
 rintro _ _ ⟨bb,rfl,rfl⟩
 refine aN (H':=row bb [.map (some b1)] 196::bz .i64 i64 b1 T.at_::row b [.map (some b1),.map (some b2),i64 T.last] 198::bz .i64 i64 b2 T.no::Fr) (fun w hh=>(hh.front 2 aa).back 1 (by simp)) (aI aa (ar call149 aa) (uM _ _ b1 bb T.at_ hTl) .free aa aa ?_)
 rintro v8 _ rfl
 refine kPa aa aa (ad (an [2] rfl (az ?_)))
 exact au results92 aa (fun w hh=>⟨_,rfl,Holds.front (A:=iC 0 (v8,cj (T.at_.map Prod.fst))) (gt (T:=T) (((hh.front 3 aa).front 2 aa).front 3 aa)) 1 aa⟩)
section
variable {B:World} {σ:Env} {H:List HP} {P:Program} {d:Option Tmp} {ty:TypeId} {p:String} {af:Array Edge} {g:Option (Nat×Bool)}
theorem uQ{t k e:TypeId}{q:Option Nat}(ht:∀ w,(underlying t).run P w= .ok (.map k e) w)(w:World):(Op.equal t (.map q) (.map none)).run P w= .ok q.isNone w:=by
 show(Op.equalIn (9999+1) t (.map q) (.map none)).run P w=_
 rw[Op.equalIn];simp only[Sem.run_bind,ht,Result.andThen_ok];cases q<;>rfl
theorem C9{op:BinOp}{x y:Operand}{q:Option Nat}{c:Bool}{t u k e:TypeId}(ht:∀ w,(underlying t).run P w= .ok (.map k e) w)(hx:evO σ x=some (.map q))(hy:evO σ y=some (.map none))(hc:(match op with | .eql=>some q.isNone | .neq=>some (!q.isNone) | _=>none)=some c):
 Evs P B σ H ⟨d,.binOp op t x y u,ty,p,af,g⟩ (.bool c):=by
 intro a w kn _
 cases op<;>simp at hc<;>subst hc<;>simp only[execOp,kn.eval hx,kn.eval hy]<;>simp[binOp,eqGuard,uQ ht]
theorem C6{x:Operand}{s t:TypeId}{v:Value}{td:TypeDesc}(ht:∀ w,(underlying t).run P w= .ok td w)(hi:xQ td=false)(hx:evO σ x=some (.iface t v)):Evs P B σ H ⟨d,.typeAssert x s t false,ty,p,af,g⟩ v:=by
 intro a w kn _
 cases td<;>simp[xQ] at hi<;>simp[execOp,kn.eval hx,Instr.typeAssert,ht]
theorem ya{α:Type}{kk:IntKind}{enc:α→Value}{r:Nat}{l:List (Int×α)}{U:List (Int×α)→List HP}{f:FuncId}{x:Operand}{t:TypeId}{at_:Array TypeId}(hc:∀ (args:Array Value) (w:World),(callFunc f args).run P w=((Extern.MapsClone.clone args).run P w).andThen fun v w'=> .ok (.value v) w')
 (hx:evO σ x=some (.iface t (.map (some r)))) [m:jW H r kk enc l U]:
 Chg P B σ H ⟨d,.call ⟨.value (.func f), #[x],at_⟩,ty,p,af,g⟩ (fun v H'=>∃ b,v= .iface t (.map (some b))∧H'=bz kk enc b l::H):=by
 intro a w kn hh
 obtain⟨bn,clock,ho,hm⟩:=m.obj hh
 refine⟨.value (.iface t (.map (some w.heap.size))),{w with heap:=w.heap.push (.map (bX kk enc bn l).toArray clock)},?_,_,.inl aa,_,⟨_,rfl,rfl⟩,?_⟩
 ·have e:Extern.MapsClone.clone #[.iface t (.map (some r))]=(getObj r>>=fun o=>match o with
   | .map entries clock=>(newObj (.map entries clock)>>=fun n=>pure (.iface t (.map (some n))))
   | _=>stuck "maps.clone: a map expected"):=rfl
  have hg:(getObj r).run P w= .ok (.map (bX kk enc bn l).toArray clock) w:=by simp[getObj,Sem.run,ho]
  have hfe:a.eval (.func f)= .func (.func f) #[] #[]:=rfl
  simp[execOp,resolve,Deferred.ofValue,invoke,hfe,kn.eval hx,hc,e,hg]
 ·exact(hh.new (.map (bX kk enc bn l).toArray clock)).map fun _ a=>lY (fun k hk=>⟨bn,clock,hk,hm⟩) a
end
theorem xK(B:World)(H:List HP)(r:Nat)(l:List (Int×Int))(U:List (Int×Int)→List HP)(m:jW H r .i64 i64 l U):
 ∀ w,Holds B H w→Calls Tryz.prog 210 [.map (some r)].toArray w (Ret B (fun rv H'=>∃ b,rv= .map (some b)∧H'=bz .i64 i64 b l::H) (fun _ _=>False)):=by
 refine ao func210 aa ntmps210 aa (ac (ab (kPa aa aa (ad (ac (ac (ab (kPm aa aa (kPv (C9 runUnderlying196 aa aa aa) aa (ad (bJ aa (rfl) ?_)))))))))))
 refine aq (ac (ab (kPm aa aa (kPv (Ae runUnderlying196 aa aa) aa (kPb (ya (fun args w=>run_callFunc_extern func217 (by kernel_rfl) (by kernel_rfl) (by kernel_rfl) (e:=Extern.MapsClone.clone) (by kernel_rfl) args w) aa) aa fun b=> ?_)))))
 refine kPv (C6 runUnderlying196 aa aa) aa (kPa aa aa (ad (an [2] rfl (az ?_))))
 exact au results210 aa (fun w hh=>⟨_,⟨b,rfl,rfl⟩,hh⟩)
structure Cr(B:World)(f:FuncId)(fi ca:List Value)(ε:Type)(ExL:ε→List HP)(okp:Int→Prop)(to_:Int→Int)(st:Int→ε→ε):Prop where
 enter:∀ args w,(callFunc f args).run Tryz.prog w= .ok (.enter f args) w
 says:∀ (Fr:List HP) (p:Int) (e:ε),okp p→∀ w,Holds B (ExL e++Fr) w→Calls Tryz.prog f (fi++[i64 p]++ca).toArray w (Ret B (fun rv H'=>rv=i64 (to_ p)∧H'=ExL (st p e)++Fr) (fun _ _=>False))
def dt(to_:Int→Int)(x:List (Int×Int)×List (Int×Int))(p:Int×Int):List (Int×Int)×List (Int×Int):=if to_ p.2≠0 then (mset x.1 p.1 (to_ p.2),mset x.2 (to_ p.2) p.1) else x
def gG.moved(to_:Int→Int)(last:Int)(ord:List (Int×Int)):gG:=⟨(ord.foldl (dt to_) ([],[])).1,(ord.foldl (dt to_) ([],[])).2,last⟩
theorem Holds.hop0{B:World}{w:World}(L M:List HP){E:List HP}(h:Holds B (L++(M++E)) w):Holds B (M++(L++E)) w:=
 h.perm (by rw[←List.append_assoc, ←List.append_assoc];exact List.Perm.append_right _ List.perm_append_comm)
theorem tu{α:Type}{l:List (Int×α)}(h:(l.map Prod.fst).Nodup):l.Nodup:=List.Pairwise.of_map Prod.fst (fun a b h e=>h (by rw[e])) h
theorem jP{α β:Type}(f:β→α→β)(l:List α)(a:α)(b:β):(l++[a]).foldl f b=f (l.foldl f b) a:=by rw[List.foldl_append];rfl
theorem xU(B:World)(Fr:List HP)(b:Nat)(T:gG)(f:FuncId)(fi ca:List Value)(ε:Type)(ExL:ε→List HP)(okp:Int→Prop)(to_:Int→Int)(st:Int→ε→ε)(hM:Cr B f fi ca ε ExL okp to_ st)(hok:∀ p∈T.at_,okp p.2)(e0:ε):
 ∀ w,Holds B (gg b T::(ExL e0++Fr)) w→Calls Tryz.prog 186 [ptr b,.func (.func f) fi.toArray ca.toArray].toArray w (Ret B (fun _ H'=>∃ ord:List (Int×Int),ord.Perm T.at_∧H'=gg b (gG.moved to_ T.last ord)::(ExL (ord.foldl (fun e (p:Int×Int)=>st p.2 e) e0)++Fr)) (fun _ _=>False)):=by
 refine ao func186 aa ntmps186 aa (rN fun b1 b2=>(ac (ab (kPf ji isAgg196 aa aa aa aa (aI aa (ar call210 aa) (xK B _ b1 T.at_ _ inferInstance) .free aa aa ?_)))))
 rintro _ _ ⟨bo,rfl,rfl⟩
 refine kPa aa aa (ad (ac (ab (kPf ji isAgg196 aa aa aa aa (kPs (mA aa runUnderlying196 aa) aa (ad (an [4,0,1] rfl (ac (ab (kPf mm isAgg196 aa aa aa aa (kPs (mA aa runUnderlying196 aa) aa ?_)))))))))))
 refine ad (ac (ab (kPm aa aa (kPb (mz runUnderlying196 aa) aa fun it=>(ad (aF (cA (ι:=List (Int×Int)) [22,0,1] (fun done=>(done.length≤T.at_.length)) (fun done=>[]) (fun done=>row b [.map (some b1),.map (some b2),i64 T.last] 198::bz .i64 i64 b1 (done.foldl (dt to_) ([],[])).1::bz .i64 i64 b2 (done.foldl (dt to_) ([],[])).2::fJ .i64 i64 bo it T.at_ done::(ExL (done.foldl (fun e (p:Int×Int)=>st p.2 e) e0)++Fr)) (fun done=>T.at_.length - done.length) ([]) (Nat.zero_le _) (fun a w st=>st.to trivial (fun hh=>(hh.pk [1,1,1]))) ?_)))))))
 rintro done hdl
 try simp only at hdl ⊢
 refine bY (σ':=[(22,_),(0,_),(1,_)]) (aC aa) (ac (ab (cI aa (nV aa) .free aa aa ?_)))
 rintro _ _ ⟨bb0,vs,done',rfl,hvs,rfl,hno,hyes⟩
 refine kPv (aA aa hvs) aa (ad (ac ?_))
 refine aZ aa (fun h24=> ?_) (fun h24=> ?_)
 ·obtain⟨pp,hpl,hpn,rfl⟩:=hyes h24
  refine iG it fun hl hd hsub=>(aq (aF (ac (ab (kPv (mu (p0:=pp) (dn:=done) aa) aa (kPv (aA aa aa) aa (kPv (aA aa aa) aa (kPa aa aa (kPa aa aa (ad (ac ?_)))))))))))
  refine ab (kPm aa aa (kPm aa aa ?_))
  refine aU aa (kF hM.enter aa aa) (fun w hh=>hM.says ([row b [.map (some b1),.map (some b2),i64 T.last] 198,bz .i64 i64 b1 (done.foldl (dt to_) ([],[])).1,bz .i64 i64 b2 (done.foldl (dt to_) ([],[])).2,fJ .i64 i64 bo it T.at_ (done++[pp])]++Fr) pp.2 (done.foldl (fun e (p:Int×Int)=>st p.2 e) e0) (hok pp hpl) w (Holds.hop0 [row b [.map (some b1),.map (some b2),i64 T.last] 198,bz .i64 i64 b1 (done.foldl (dt to_) ([],[])).1,bz .i64 i64 b2 (done.foldl (dt to_) ([],[])).2,fJ .i64 i64 bo it T.at_ (done++[pp])] (ExL (done.foldl (fun e (p:Int×Int)=>st p.2 e) e0)) hh)) .free aa aa ?_ ?_
  rotate_left
  ·rintro _ _ ⟨⟩
  rintro _ _ ⟨rfl,rfl⟩
  refine aN (H':=[row b [.map (some b1),.map (some b2),i64 T.last] 198,bz .i64 i64 b1 (done.foldl (dt to_) ([],[])).1,bz .i64 i64 b2 (done.foldl (dt to_) ([],[])).2,fJ .i64 i64 bo it T.at_ (done++[pp])]++(ExL (st pp.2 (done.foldl (fun e (p:Int×Int)=>st p.2 e) e0))++Fr)) (fun w hh=>Holds.hop0 (ExL (st pp.2 (done.foldl (fun e (p:Int×Int)=>st p.2 e) e0))) [row b [.map (some b1),.map (some b2),i64 T.last] 198,bz .i64 i64 b1 (done.foldl (dt to_) ([],[])).1,bz .i64 i64 b2 (done.foldl (dt to_) ([],[])).2,fJ .i64 i64 bo it T.at_ (done++[pp])] hh) ?_
  simp only[List.cons_append,List.nil_append]
  refine kPa aa aa (ad (an [7,5,22,0,1] rfl (ac (ab (kPm aa aa (kPv (am aa aa aa) aa (ad ?_)))))))
  refine aZ aa (fun h32=> ?_) (fun h32=> ?_)
  ·have hnz:to_ pp.2≠0:=by simpa using h32
   refine cR [0,1,2,3,4,5,6,7,8,9,10,11,12,13,14,15,16,17] [12,14,15,17] [9,10,11] [12,14,15] [row b [.map (some b1),.map (some b2),i64 T.last] 198] Tryz.mixed (by kernel_rfl) ?_
   refine aQ aa aa aa (aj aa) .free aa (aQ aa aa aa (aK aa) .free aa (aQ aa aa aa (aE (m:=_) ji aa aa) .free aa (aQ aa aa aa (ai isAgg196 aa aa) .free aa (aQ aa aa aa (aj aa) .free aa (aQ aa aa aa (aj aa) .free aa (aQ aa aa aa (aK aa) .free aa (aQ aa aa aa (aE (m:=_) mm aa aa) .free aa (aQ aa aa aa (ai isAgg196 aa aa) .free aa (ak aa aa aa (aj aa) .free aa (ak aa aa aa (aj aa) .free aa (ak aa aa aa (aj aa) .free aa ?_)))))))))))
   refine aT aa aa (aS [1] (cI aa (iK (u0:=(0:Int)) runUnderlying196 runUnderlying3 zeroValue3 aa aa) .free aa aa ?_))
   rintro _ _ ⟨z1,st1,rfl,rfl⟩
   refine ad (cN (aQ aa aa aa (aA aa aa) .free aa (aT aa aa (kPs (gJ aa aa aa aa) aa (ad (cN (aT aa aa (aS [2] (cI aa (iK (u0:=(0:Int)) runUnderlying196 runUnderlying3 zeroValue3 aa aa) .free aa aa ?_)))))))))
   rintro _ _ ⟨z2,st2,rfl,rfl⟩
   refine ad (cN (aQ aa aa aa (aA aa aa) .free aa (aT aa aa (kPs (gJ aa aa aa aa) aa (ad (c7 aa (cx (an [22,0,1] rfl ?_))))))))
   have hle:=iF hd hsub
   exact fun a w st_=>⟨done++[pp],by first | omega | (simp;omega),by first | omega | (simp;omega),st_.to ⟨rfl,rfl,rfl,trivial⟩ (fun hh=>(by have h:=(hh.pk [2,1]);rw[jI,jI] at h;rw[jP,jP,show dt to_ (done.foldl (dt to_) ([],[])) pp=(mset _ pp.1 (to_ pp.2),mset _ (to_ pp.2) pp.1) from if_pos hnz];exact h))⟩
  ·have hnz:to_ pp.2=0:=by simpa using h32
   refine aq ?_
   have hle:=iF hd hsub
   exact fun a w st_=>⟨done++[pp],by first | omega | (simp;omega),by first | omega | (simp;omega),st_.to ⟨rfl,rfl,rfl,trivial⟩ (fun hh=>(by have h:=hh;rw[jP,jP,show dt to_ (done.foldl (dt to_) ([],[])) pp=_ from if_neg (by simpa using hnz)];exact h))⟩
 ·obtain⟨rfl,hall⟩:=hno h24
  refine iG it fun hl hd hsub=>(bC ?_)
  exact cS results186 (fun w hh=>⟨_,⟨done',(List.perm_ext_iff_of_nodup (tu hd) (tu hl)).2 fun x=>⟨hsub x,hall x⟩,rfl⟩,gt (T:=gG.moved to_ T.last done') (hh.dp [3])⟩)
def dl(c:Cfg)(b:Blk)(ml:List (Int×db))(v:Int):Bool:=v==0||(b.has c v&&(bP ml v).isSome)
def sX(s:Dev)(nf:Int→Bool)(o:db):Bool:=(List.range o.2.1.toNat).all fun k=>nf (s.load (o.2.2+1+(k:Int)))
def stC(s:Dev)(nf:Int→Bool)(p:db×Int)(x:Int):Bool×Int:=if sX s nf p.1=true then (true,x) else (false,9)
def Dev.check(s:Dev)(c:Cfg):Int:=
 if (s.block c).2≠0 then (s.block c).2
 else if (s.starts c (s.block c).1).2≠0 then (s.starts c (s.block c).1).2
 else if (s.block c).1.rts.all (dl c (s.block c).1 (s.starts c (s.block c).1).1)=true then
  (itl (stC s (dl c (s.block c).1 (s.starts c (s.block c).1).1)) (s.objs c (s.block c).1 ((s.block c).1.used.toNat+1) ((s.block c).1.place c 0)) 0).2
 else 9
theorem zi(o:Option db):p4 gX (.agg #[i64 0,i64 0,i64 0]) o=gX (o.getD (0,0,0)):=by cases o<;>rfl
theorem pY{α:Type}{l:List α}{f:α→Bool}{k:Nat}(hk:k<l.length)(h:(l.take k).all f=true)(h2:f l[k]=true):(l.take (k+1)).all f=true:=by
 rw[List.take_succ_eq_append_getElem hk,List.all_append,h];simp[h2]
theorem oM{f:Nat→Bool}{k:Nat}(h:(List.range k).all f=true)(h2:f k=true):(List.range (k+1)).all f=true:=by
 rw[List.range_succ,List.all_append,h];simp[h2]
theorem qX(B:World)(Fr:List HP)(b1 b2 b3 mb:Nat)(c:Cfg)(hc:bA c)(b:Blk)(sv:Value)(hb:gi c b)(hsv:aM sv=true)(ml:List (Int×db))(v:Int)(hv:0≤v∧v<18446744073709551616):
 ∀ w,Holds B (row b1 [i64 b.act,i64 b.used,sv] 151::row b2 [i64 c.log,i64 c.roots,i64 c.space] 134::row b3 [.map (some mb)] 259::bz .i64 gX mb ml::Fr) w→Calls Tryz.prog 181 [w64 v,ptr b1,ptr b2,ptr b3].toArray w (a8 B (row b1 [i64 b.act,i64 b.used,sv] 151::row b2 [i64 c.log,i64 c.roots,i64 c.space] 134::row b3 [.map (some mb)] 259::bz .i64 gX mb ml::Fr) (.bool (dl c b ml v))):=by
 refine ao func181 aa ntmps181 aa (ac (ab (kPa aa aa (ad (ac (ac (ab (kPm aa aa (kPv (am aa aa aa) aa (ad ?_))))))))))
 refine aZ aa (fun h9=> ?_) (fun h9=> ?_)
 ·have hres:dl c b ml v=true:=by unfold dl;simp[show v=0 by simpa using h9]
  refine ac (ab (kPa aa aa (ad (az ?_))))
  exact au results181 aa (fun w hh=>⟨by rw[hres],hh⟩)
 ·have hne:¬ v=0:=by simpa using h9
  refine aq (ac (ac (ab (kPv (ah isAgg151 sizeOf151 aa aa) aa ?_))))
  refine kPv (ah isAgg134 sizeOf134 aa aa) aa ?_
  refine kPm aa aa (ay aa (ar call182 aa) (rL _ _ c hc b sv hb hsv _ hv) .free aa aa ?_)
  refine kPv (bx aa) aa (ad (an [14,5,0,3] rfl ?_))
  refine aZ aa (fun h14=> ?_) (fun h14=> ?_)
  ·have hh0:b.has c v=false:=by simpa using h14
   have hres:dl c b ml v=false:=by unfold dl;simp[hne,hh0]
   refine ac (ab (kPa aa aa (ad (az ?_))))
   exact au results181 aa (fun w hh=>⟨by rw[hres],hh⟩)
  ·have hh0:b.has c v=true:=by simpa using h14
   have hvb:=kM hc hb hh0
   have hres:dl c b ml v=(bP ml v).isSome:=by unfold dl;simp[hne,hh0]
   refine aq (ac (ab (kPv (ai isAgg259 aa aa) aa (kPm aa aa (kPv (bK runUnderlying25 runUnderlying3 aa) aa (kPv ((fy runUnderlying259 runUnderlying3 zeroValue160 aa aa).eq (congrArg (fun v=>Value.tuple #[v,.bool _]) (zi _))) aa (kPm aa aa (kPv (aA aa aa) aa (kPv (aA aa aa) aa (kPb (aD zeroValue160 aa) aa fun b6=>(kPs (ax (vs:=[i64 _,i64 _,i64 _]) sizeOf160 aa aa aa aa aa) aa ?_)))))))))))
   refine kPa aa aa (ad (an [7,5] rfl (ac (ab (kPm aa aa (kPa aa aa (ad (az ?_))))))))
   exact au results181 aa (fun w hh=>⟨by rw[hres];rfl,hh.tail⟩)
theorem la(B:World)(Fr:List HP)(bd:Nat)(s:Dev)(c:Cfg)(hc:bA c)(hu:U64 s):
 ∀ w,Holds B (aB bd s::Fr) w→Calls Tryz.prog 130 [ptr bd,dV c].toArray w (a8 B (aB bd s::Fr) (i64 (s.check c))):=by
 refine eJ func130 aa ntmps130 aa ?_
 have hrl:=fM (s:=s) hc
 refine ac (ab (kPb (dH aa aa) aa fun b2=>(kPb (aY aa) aa fun b3=>(kPa aa aa (ad (wN (ac (ab (kPv (ai isAgg90 aa aa) aa (kPv (ah isAgg134 sizeOf134 aa aa) aa ?_))))))))))
 refine aS [2] (aI aa (ar call117 aa) (fU _ _ _ _ c hc hu) .free aa aa ?_)
 rintro _ _ ⟨sv,hsv,rfl,rfl⟩
 have hbk:=dB (s:=s) hc hu
 refine kPm aa aa (kPv (aA aa aa) aa (kPv (aA aa aa) aa (kPb (aD zeroValue151 aa) aa fun b5=>(kPs (ax (vs:=[i64 _,i64 _,sv]) sizeOf151 aa aa aa (dW hsv) aa) aa (kPa aa aa (ad (an [6,5,4,3,2] rfl (ac (ac (ab (kPm aa aa ?_)))))))))))
 refine kPv (am aa aa aa) aa (ad ?_)
 refine aZ aa (fun h21=> ?_) (fun h21=> ?_)
 ·have he:(s.block c).2≠0:=by simpa using h21
  have hres:s.check c=(s.block c).2:=by unfold Dev.check;rw[if_pos he]
  refine ac (ab (kPm aa aa (kPa aa aa (ad (az ?_)))))
  exact fF results130 aa (.nil) (fun w hh=>⟨by rw[hres]<;>rfl,(hh.dp [0,0,1,1])⟩)
 ·have he:(s.block c).2=0:=by simpa using h21
  refine aq (ac (ab (kPv (ai isAgg90 aa aa) aa (kPv (ah isAgg134 sizeOf134 aa aa) aa ?_))))
  refine kPv (ah isAgg151 sizeOf151 aa aa) aa ?_
  refine aS [2] (aI aa (ar call180 aa) (n7 _ _ bd s c hc (s.block c).1 sv hbk hsv) .free aa aa ?_)
  rintro _ _ ⟨mb,rfl,rfl⟩
  refine kPm aa aa (kPv (aA aa aa) aa (kPv (aA aa aa) aa (kPb (ck zeroValue259 aa) aa fun b7=>(kPs (aO sizeOf259 aa aa aa aa) aa (kPa aa aa (ad (an [6,7,5,4,3,2] rfl (ac (ac (ab (kPm aa aa ?_)))))))))))
  refine kPv (am aa aa aa) aa (ad ?_)
  refine aZ aa (fun h31=> ?_) (fun h31=> ?_)
  ·have he2:(s.starts c (s.block c).1).2≠0:=by simpa using h31
   have hres:s.check c=(s.starts c (s.block c).1).2:=by unfold Dev.check;rw[if_neg (by omega),if_pos he2]
   refine ac (ab (kPm aa aa (kPa aa aa (ad (az ?_)))))
   exact fF results130 aa (.nil) (fun w hh=>⟨by rw[hres]<;>rfl,(hh.dp [0,0,1,1,1,1])⟩)
  ·have he2:(s.starts c (s.block c).1).2=0:=by simpa using h31
   refine aq (ac (ab (kPb (ck zeroValue36 aa) aa fun b8=>(kPs (aO sizeOf36 aa aa aa aa) aa (ad (ac (ab (kPv (du aa aa) aa (kPb (ck zeroValue264 aa) aa fun b9=>(kPs (aO sizeOf264 aa aa aa aa) aa (aS [6] ?_)))))))))))
   refine cE fun qo co hqe hqo=> ?_
   subst hqe
   refine ad (ac (ac (ab (kPl fa isAgg30 aa aa aa aa (kPv (bB aa runUnderlying30 ⟨_,rfl⟩ rfl) aa (kPm aa aa (ad (aF (cA (ι:=Nat) [36,35,9,8,5,4,3,2] (fun k=>(k≤(s.block c).1.rts.length)∧(((s.block c).1.rts.take k).all (dl c (s.block c).1 (s.starts c (s.block c).1).1)=true)) (fun k=>[(37,i64 k)]) (fun k=>row b5 [i64 (s.block c).1.act,i64 (s.block c).1.used,.slice qo (s.block c).1.rts.length co] 151::row b3 [i64 c.log,i64 c.roots,i64 c.space] 134::row b7 [.map (some mb)] 259::bz .i64 gX mb (s.starts c (s.block c).1).1::cP 0 (.slice qo (s.block c).1.rts.length co,(s.block c).1.rts)::aB bd s::row b8 [i64 0] 36::row b9 [.func (.func 181) #[] #[ptr b5,ptr b3,ptr b7]] 264::row b2 [ptr bd] 90::Fr) (fun k=>(s.block c).1.rts.length - k) (0) (⟨Nat.zero_le _,rfl⟩) (fun a w st=>st.to ⟨rfl,trivial⟩ (fun hh=>(hh.pk [6,6,3,3,0,2,1]))) ?_)))))))))
   rintro k ⟨hk0,hkr⟩
   try simp only at hk0 hkr ⊢
   refine bY (σ':=[(37,i64 k),(36,_),(35,_),(9,_),(8,_),(5,_),(4,_),(3,_),(2,_)]) (aC aa) (ac (ab (kPv (am aa aa aa) aa (ad (ac ?_)))))
   refine aZ aa (fun h38=> ?_) (fun h38=> ?_)
   ·have hk:k<(s.block c).1.rts.length:=by simp at h38;omega
    obtain⟨bq,oq,rfl⟩:=hqo k hk
    have hul:0≤(s.block c).1.rts[k]∧(s.block c).1.rts[k]<18446744073709551616:=fL hu _ (List.getElem_mem hk)
    refine aq (ac (aF (ac (ab (kPv (bT runUnderlying30 sizeOf25 aa aa (by omega) (by omega)) aa ?_)))))
    refine kPv (bH (v:=w64 (s.block c).1.rts[k]) isAgg25 (cQ 4 aa) aa (by rw[Int.toNat_natCast,List.getElem?_map,List.getElem?_eq_getElem hk];rfl)) aa ?_
    refine kPa aa aa (ad (ac (ab (kPv (ai isAgg264 aa aa) aa (kPm aa aa ?_)))))
    refine ay aa (kF call181 aa aa) (qX B _ b5 b3 b7 mb c hc (s.block c).1 _ hbk aa (s.starts c (s.block c).1).1 (s.block c).1.rts[k] hul) .free aa aa ?_
    refine kPv (bx aa) aa (ad (an [44,37,36,35,9,8,5,4,3,2] rfl ?_))
    refine aZ aa (fun h44=> ?_) (fun h44=> ?_)
    ·have hnr:¬ (dl c (s.block c).1 (s.starts c (s.block c).1).1) (s.block c).1.rts[k]=true:=by simpa using h44
     have hres:s.check c=9:=by unfold Dev.check;rw[if_neg (by omega),if_neg (by omega),if_neg (fun hh=>hnr (List.all_eq_true.1 hh _ (List.getElem_mem hk)))]
     refine ac (ab (kPa aa aa (ad (az ?_))))
     exact fF results130 aa (.nil) (fun w hh=>⟨by rw[hres]<;>rfl,(hh.dp [0,0,0,0,0,1,1,1])⟩)
    ·have hnr:(dl c (s.block c).1 (s.starts c (s.block c).1).1) (s.block c).1.rts[k]=true:=by simpa using h44
     refine aq (ab (kPv (aL aa aa) aa (kPm aa aa (ad ?_))))
     exact fun a w st_=>⟨k+1,⟨by first | omega | (simp only;omega),pY hk hkr hnr⟩,by first | omega | (simp only;omega),st_.to (aC aa) (fun hh=>hh)⟩
   ·have hk:¬ k<(s.block c).1.rts.length:=by simp at h38;omega
    obtain rfl:k=(s.block c).1.rts.length:=by omega
    have hres:s.check c=(itl (stC s (dl c (s.block c).1 (s.starts c (s.block c).1).1)) (s.objs c (s.block c).1 ((s.block c).1.used.toNat+1) ((s.block c).1.place c 0)) 0).2:=by unfold Dev.check;rw[if_neg (by omega),if_neg (by omega),if_pos (by rw[List.take_length] at hkr;exact hkr)]
    refine bC (ac (wO (ac (ac (ab (kPv (ai isAgg90 aa aa) aa (kPv (ah isAgg134 sizeOf134 aa aa) aa ?_)))))))
    refine kPv (ah isAgg151 sizeOf151 aa aa) aa ?_
    refine aI aa (ar call183 aa) (of _ _ bd c (s.block c).1 (.slice qo (s.block c).1.rts.length co) aa) .free aa aa ?_
    rintro _ _ ⟨c3,c4,c5,rfl,rfl⟩
    refine ad (an [49,9,8,4,2] rfl (aF (kX aa call208 ?_)))
    intro l m tmps hts hkn w hh
    have hk9:=hkn 9 _ rfl
    have hk2:=hkn 2 _ rfl
    have hk8:=hkn 8 _ rfl
    refine(so B (blk m (.deferred (some []))::cP 0 (.slice qo (s.block c).1.rts.length co,(s.block c).1.rts)::Fr) l 130 c3 c4 c5 bd c hc (s.block c).1 _ hbk aa s Int _ aa aa (fun x=>True) (fun x=>[row b8 [i64 x] 36,row b5 [i64 (s.block c).1.act,i64 (s.block c).1.used,.slice qo (s.block c).1.rts.length co] 151,row b3 [i64 c.log,i64 c.roots,i64 c.space] 134,row b7 [.map (some mb)] 259,bz .i64 gX mb (s.starts c (s.block c).1).1,row b9 [.func (.func 181) #[] #[ptr b5,ptr b3,ptr b7]] 264,row b2 [ptr bd] 90]) (fun _=> .exit 2) (stC s (dl c (s.block c).1 (s.starts c (s.block c).1).1)) 0 trivial ?_ w (hh.pk [0,1,1,1,6,6,1,1,1,1,2,2])).mono (Ret.mono ?_ fun _ _ h=>h.elim)
    ·intro p x hpw _
     have hp2:=hpw.r
     have hp1:=hpw.w
     have hp3:=hpw.at_
     refine⟨trivial,fun E=> ?_⟩
     simp only[List.cons_append,List.nil_append]
     refine gN (n:=70) (σ:=[(50,gX p.1),(51,i64 p.2),(9,ptr b9),(2,ptr b2),(8,ptr b8)]) func130 (by simp[fP,hts]) (KnA.knows (by simp[KnA,fP,hts];exact⟨(Array.getElem?_eq_some_iff.1 hk9).2,(Array.getElem?_eq_some_iff.1 hk2).2,(Array.getElem?_eq_some_iff.1 hk8).2⟩)) aa ?_
     refine ab (kPb (aD zeroValue160 aa) aa fun b12=>(kPs (ax (vs:=[i64 p.1.1,i64 p.1.2.1,i64 p.1.2.2]) sizeOf160 aa aa aa aa aa) aa (ad (aS [1] (kv (aF (ac ?_)))))))
     generalize hrec:({state:=LoopState.busy, ..}:Loop)=rec
     refine ab (kPv (aE (m:=_) eZ aa aa) aa (kPl ga isAgg3 aa aa aa aa (kPm aa aa (ad (aF ?_)))))
     refine cA (ι:=Nat) [54,12,9,2,8] (fun j=>((j:Int)≤p.1.2.1)∧((List.range j).all (fun k=>(dl c (s.block c).1 (s.starts c (s.block c).1).1) (s.load (p.1.2.2+1+(k:Int))))=true)) (fun j=>[(55,i64 j)]) (fun j=>row b5 [i64 (s.block c).1.act,i64 (s.block c).1.used,.slice qo (s.block c).1.rts.length co] 151::row b3 [i64 c.log,i64 c.roots,i64 c.space] 134::row b7 [.map (some mb)] 259::bz .i64 gX mb (s.starts c (s.block c).1).1::row b12 [i64 p.1.1,i64 p.1.2.1,i64 p.1.2.2] 160::blk l (.loop rec)::row c5 [i64 (s.block c).1.act,i64 (s.block c).1.used,.slice qo (s.block c).1.rts.length co] 151::row c4 [i64 c.log,i64 c.roots,i64 c.space] 134::row c3 [ptr bd] 90::aB bd s::row b8 [i64 x] 36::row b9 [.func (.func 181) #[] #[ptr b5,ptr b3,ptr b7]] 264::row b2 [ptr bd] 90::E) (fun j=>p.1.2.1.toNat - j) (0) (⟨by first | omega | (simp only;omega),rfl⟩) (fun a w st=>st.to ⟨rfl,trivial⟩ (fun hh=>(hh.pk [7,7,7,7,1]))) ?_
     rintro j ⟨hj0,hall⟩
     try simp only at hj0 hall ⊢
     refine bY (σ':=[(55,i64 j),(54,_),(12,_),(9,_),(2,_),(8,_)]) (aC aa) (ac (ab (kPv (am aa aa aa) aa (ad (ac ?_)))))
     refine aZ aa (fun h56=> ?_) (fun h56=> ?_)
     ·have hj:(j:Int)<p.1.2.1:=by simpa using h56
      refine aq (ac (aF (ac (ab (kPm aa aa (kPa aa aa (ad (ac (cK Tryz.mixed (by kernel_rfl) (by kernel_rfl) ?_)))))))))
      refine kQv (ai isAgg264 aa aa) aa (kQv (ai isAgg90 aa aa) aa (kQv (aE (m:=_) kB aa aa) aa (kQv (ai isAgg3 aa aa) aa (kQv (aL aa aa) aa (kQm aa aa (kQv (aL aa aa) aa (bG aa (ar call173 aa) (bI (q:=aB) (fun Fr=>cu _ Fr _ _ _)) .free aa ?_)))))))
      refine bG aa (kF call181 aa aa) (qX B _ b5 b3 b7 mb c hc (s.block c).1 _ hbk aa (s.starts c (s.block c).1).1 (s.load (p.1.2.2+1+(j:Int))) (hu.load _)) .free aa ?_
      refine kQv (bx aa) aa (cg (an [67,55,54,12,9,2,8] rfl ?_))
      refine aZ aa (fun h67=> ?_) (fun h67=> ?_)
      ·have hnall:¬ (dl c (s.block c).1 (s.starts c (s.block c).1).1) (s.load (p.1.2.2+1+(j:Int)))=true:=by simpa using h67
       subst hrec
       refine ac (ab (kPs (aO sizeOf36 aa aa aa aa) aa (ad (bC ?_))))
       have hst:stC s (dl c (s.block c).1 (s.starts c (s.block c).1).1) p x=(false,9):=by unfold stC;rw[if_neg (show ¬ sX s (dl c (s.block c).1 (s.starts c (s.block c).1).1) p.1=true from fun hh=>hnall (List.all_eq_true.1 hh j (List.mem_range.2 (by omega))))]
       refine aS [5] ?_
       exact wK fun w hh=>⟨_,⟨by rw[hst],rfl⟩,by rw[hst];exact((hh.dp [5]).pk [0,4,4,4,4,4])⟩
      ·have hnm:(dl c (s.block c).1 (s.starts c (s.block c).1).1) (s.load (p.1.2.2+1+(j:Int)))=true:=by simpa using h67
       refine aq (ab (kPv (aL aa aa) aa (kPm aa aa (ad ?_))))
       exact fun a w st_=>⟨j+1,⟨by first | omega | (simp only;omega),oM hall hnm⟩,by first | omega | (simp only;omega),st_.to (aC aa) (fun hh=>hh)⟩
     ·have hj:¬ (j:Int)<p.1.2.1:=by simpa using h56
      have hall2:sX s (dl c (s.block c).1 (s.starts c (s.block c).1).1) p.1=true:=by unfold sX;rw[show p.1.2.1.toNat=j by omega];exact hall
      subst hrec
      refine bC ?_
      have hst:stC s (dl c (s.block c).1 (s.starts c (s.block c).1).1) p x=(true,x):=by unfold stC;rw[if_pos hall2]
      refine aS [5] ?_
      exact ku fun w hh=>⟨_,⟨by rw[hst],rfl⟩,by rw[hst];exact((hh.dp [5]).pk [0,4,4,4,4,4])⟩
    rintro _ _ ⟨_,rfl⟩
    simp only[List.cons_append,List.nil_append]
    refine⟨_,_,fun w hh=>hh,kj (by simp[fP]),fun hp=> ?_,fun c' hc'=> ?_⟩
    rotate_left
    ·obtain⟨h1,rfl⟩:=ki rfl hc'
     refine bC (ac (ab (kPv (ai isAgg36 aa aa) aa (kPa aa aa (ad (az ?_))))))
     exact fF results130 aa (.at 12 (.nil)) (fun w hh=>⟨by rw[hres]<;>rfl,(hh.dp [0,0,0,0,1,1,1,1,1,1,1,1,1])⟩)
    refine ac (ab (kPv (ai isAgg36 aa aa) aa (kPa aa aa (ad (az ?_)))))
    exact fF results130 aa (.at 12 (.nil)) (fun w hh=>⟨by rw[hres]<;>rfl,(hh.dp [0,0,0,0,1,1,1,1,1,1,1,1,1])⟩)
end Go.Proofs.YtoakdoeajpjgkaaGreatDoor
