/- Part of a law's texts. Conditions: none. -/
import Derived.Test.YtoakdoeajpjgkaaGreatDoorQL18Sn
import Derived.LaidLaws
import Derived.Lib.LaidTab
import Derived.Stop.LaidErr
import Derived.Shelf.Vars
import Derived.MakeChecks
import Derived.ChangeSame
import Derived.Deep.Slices
import Derived.SizedLaws
import Derived.Stop.Joined
import Derived.Lay
import Derived.JoinedOf
open Go.Proofs.Tryz
set_option linter.all false
namespace Go.Proofs.YtoakdoeajpjgkaaGreatDoor
open Go
theorem j8{L:bR}{s:Dev}(h:L.n=0):L.undo s= .ok L s:=by
 unfold bR.undo
 rw[show L.n.toNat=0 by omega]
 simp[lh,bR.truncate,h,Out.then]
theorem y8{c:Cfg}(hc:bA c){s:Dev}(hn:(s.n:Int)=c.words)(h0:s.load 0=gA)(h1:s.load 1=c.log)(h2:s.load 2=c.roots)(h3:s.load 3=c.space):s.readC=(c,0):=by
 have l1:=hc.l1;have l2:=hc.l2;have r1:=hc.r1;have r2:=hc.r2;have s1:=hc.s1;have s2:=hc.s2
 have e:∀ x:Int,0≤x∧x≤4096→IntKind.i64.wrap x=x:=fun x hx=>fR (by omega)
 have e1:cm s 0=c.log:=by unfold cm;rw[show(1+((0:Nat):Int))=1 from rfl,h1];exact e _ (by omega)
 have e2:cm s 1=c.roots:=by unfold cm;rw[show(1+((1:Nat):Int))=2 from rfl,h2];exact e _ (by omega)
 have e3:cm s 2=c.space:=by unfold cm;rw[show(1+((2:Nat):Int))=3 from rfl,h3];exact e _ (by omega)
 have hcc:(⟨c.log,c.roots,c.space⟩:Cfg)=c:=rfl
 unfold Dev.readC
 rw[if_neg (by rw[h0];simp),if_neg (by omega),e1,e2,e3,hcc,if_neg (by rintro(h | h);exact h hc;exact h hn)]
theorem oY{s t:Dev}(h:t.load=s.load)(c:Cfg)(e:Int):∀ f n,gO t c e f n=gO s c e f n
 | 0,_=>rfl
 | f+1,n=>by unfold gO;rw[h,oY h c e f]
theorem u3{s t:Dev}(h:t.load=s.load)(d:Nat)(c:Cfg):bZ d c t=bZ d c s:=by unfold bZ;rw[h,oY h]
theorem w9(s:Dev)(pa:Nat):(cpD s pa).load=s.load:=by
 funext j
 unfold Dev.load Dev.has
 show(if (decide (0≤j)&&decide (j<(s.n:Int)))=true then (tab s.n s.now).getD j.toNat 0 else 0)=_
 split
 ·rename_i h
  simp only[Bool.and_eq_true,decide_eq_true_eq] at h
  have e:tab s.n s.now=(List.range s.n).map s.now:=rfl
  rw[e,List.getD_eq_getElem?_getD]
  simp[show j.toNat<s.n by omega]
 ·rfl
structure OkD(c:Cfg)(N:Nat)(s:Dev)(e:Int)(a u:Int)(L:List Int):Prop where
 n:s.n=N
 hN:(N:Int)=c.words
 uu:U64 s
 rc:s.readC=(c,0)
 lg:∀ d,bZ d c s=⟨d,c,e,0⟩
 hm:HM c s.load a u L
theorem OkD.open_{c:Cfg}(hc:bA c){N:Nat}{s:Dev}{e a u:Int}{L:List Int}(h:OkD c N s e a u L){bd:Nat}{x:Int}(hx:tk bd s x):x=0:=by
 have e0:s.readC.2=0:=by rw[h.rc]
 have e1:s.readC.1=c:=by rw[h.rc]
 rcases hx with ⟨h1,_⟩ | ⟨_,h1,_⟩ | ⟨_,_,bc,pa,L1,t1,h2,h3⟩
 ·exact absurd e0 h1
 ·rw[e1,h.lg] at h1
  exact absurd h1 (show ¬ (0:Int)≤ -1 by decide)
 ·rw[e1,u3 (w9 s pa),h.lg,j8 rfl] at h2
  cases h2
  rw[h3,e1]
  have hm:HM c (cpD s pa).load a u L:=by rw[w9];exact h.hm
  exact po hc (Cn h.uu pa) hm.block hm.heap
theorem OkD.undo{c:Cfg}{N:Nat}{s:Dev}{e a u:Int}{L:List Int}(h:OkD c N s e a u L){bd:Nat}{L':bR}{s':Dev}(hx:(bZ bd s.readC.1 s).undo s= .ok L' s'):s'=s:=by
 rw[show s.readC.1=c by rw[h.rc],h.lg,j8 rfl] at hx
 cases hx;rfl
theorem OkD.noff{c:Cfg}{N:Nat}{s:Dev}{e a u:Int}{L:List Int}(h:OkD c N s e a u L){bd:Nat}{s':Dev}(hx:(bZ bd s.readC.1 s).undo s= .off s'):False:=by
 rw[show s.readC.1=c by rw[h.rc],h.lg,j8 rfl] at hx
 cases hx
structure HC(kp:Prop)(c:Cfg)(N bd:Nat)(h:HpS)(s:Dev)(a u:Int)(L:List Int):Prop where
 hbd:h.bd=bd
 hcc:h.c=c
 ho:h.o=false
 sk:SK c N bd h.S s
 hm:HM c s.load a u L
 rc:s.readC=(c,0)
 hw:ef h s
 hkp:kp→s.kept=s.now
theorem Bn{c:Cfg}(hc:bA c){N:Nat}{s:Dev}{e a u:Int}{L:List Int}(h:OkD c N s e a u L)(hs:kN s)(he:0≤e∧e<4294967296)(hsh:s.now 8=e∧s.now 16≠gw e 0)(bd:Nat){kp:Prop}(hk:kp→s.kept=s.now):HC kp c N bd (iQ bd c s) s a u L:=by
 have hA:=jr hc
 have hN:=h.hN
 have hlog:0≤c.log:=by have:=hc.l1;have:=hc.r1;omega
 have hlw:dG ⟨bd,c,e,0⟩:=⟨hc,he.1,he.2,Int.le_refl _,hlog⟩
 have hS:(iQ bd c s).S=⟨⟨bd,c,e,0⟩,0,0,[],[]⟩:=by unfold iQ;rw[h.lg]
 have hsk:SK c N bd (iQ bd c s).S s:=by
  rw[hS]
  exact⟨hs,h.uu,h.n,h.hN,rfl,hlw,rfl,rfl,hsh⟩
 refine⟨rfl,rfl,rfl,hsk,h.hm,h.rc,⟨hc,hsk.secK hc,fun x=>(by cases x),h.uu,⟨Int.le_refl _,by show(0:Int)≤1000000000;decide⟩,Nat.zero_le _,fun p hp=>(by cases hp),fun X hX=>(by cases hX)⟩,hk⟩
theorem Fmt.okd{c:Cfg}(hc:bA c){N:Nat}{s:Dev}(h:Fmt c N s)(hN:(N:Int)=c.words)(hu:U64 s):OkD c N s 1 0 0 []:=by
 have hA:=jr hc
 have hld:∀ k:Nat,k<24→s.load k=s.now k:=fun k hk=>km rfl (by rw[h.n];omega)
 have hF:=C4 hc hN h hu
 refine⟨h.n,hN,hu,y8 hc (by rw[h.n];exact hN) ?_ ?_ ?_ ?_,h.log,⟨hF.act,by omega,hF.used,hF.u0,hF.tile,hF.names,hF.roots⟩⟩
 ·rw[show(0:Int)=((0:Nat):Int) from rfl,hld 0 (by omega)];exact h.st.magic
 ·rw[show(1:Int)=((1:Nat):Int) from rfl,hld 1 (by omega)];exact h.st.cfg.1
 ·rw[show(2:Int)=((2:Nat):Int) from rfl,hld 2 (by omega)];exact h.st.cfg.2.1
 ·rw[show(3:Int)=((3:Nat):Int) from rfl,hld 3 (by omega)];exact h.st.cfg.2.2
theorem Fmt.hc{c:Cfg}(hc:bA c){N:Nat}{s:Dev}(h:Fmt c N s)(hN:(N:Int)=c.words)(hu:U64 s)(bd:Nat):HC True c N bd (iQ bd c s) s 0 0 []:=
 Bn hc (h.okd hc hN hu) ⟨h.lim,h.calm.q⟩ ⟨by decide,by decide⟩ ⟨h.ep.1,by rw[h.ep.2];decide⟩ bd fun _=>h.calm.kept
structure K8(s s':Dev):Prop where
 n:s'.n=s.n
 now:∀ x:Nat,x<8→s'.now x=s.now x
theorem K8.refl{s:Dev}:K8 s s:=⟨rfl,fun _ _=>rfl⟩
theorem K8.trans{s s' s'':Dev}(h:K8 s s')(g:K8 s' s''):K8 s s'':=⟨g.n.trans h.n,fun x hx=>(g.now x hx).trans (h.now x hx)⟩
theorem kq{s s':Dev}{i v a:Int}(hi:8≤i)(e:s.store i v= .ok a s'):K8 s s':=by
 unfold Dev.store at e
 split at e
 ·cases e;exact .refl
 ·split at e
  ·cases e
  ·cases e
   exact⟨rfl,fun x hx=>by show upd s.now i.toNat v x=_;unfold upd;rw[if_neg (by omega)]⟩
theorem tH{s s':Dev}{i a:Int}(e:s.flush i= .ok a s'):K8 s s':=by
 unfold Dev.flush at e
 split at e
 ·cases e;exact .refl
 ·split at e
  ·cases e
  ·cases e;exact⟨rfl,fun _ _=>rfl⟩
theorem tI{s s':Dev}{a:Unit}(e:s.fence= .ok a s'):K8 s s':=by
 unfold Dev.fence at e
 split at e
 ·cases e
 ·cases e;exact⟨rfl,fun _ _=>rfl⟩
theorem xO{L:bR}{s s':Dev}{i:Int}{r:Int×bR}(hL:dG L)(e:L.append s i= .ok r s'):K8 s s':=by
 unfold bR.append at e
 split at e
 ·cases e;exact .refl
 split at e
 ·cases e;exact .refl
 have hr:16≤L.c.record L.n:=by have:=hL.n1;simp only[Cfg.record];omega
 obtain⟨_,s1,e1,e⟩:=aJ e
 obtain⟨_,s2,e2,e⟩:=aJ e
 obtain⟨_,s3,e3,e⟩:=aJ e
 obtain⟨_,s4,e4,e⟩:=aJ e
 obtain⟨_,s5,e5,e⟩:=aJ e
 obtain⟨_,s6,e6,e⟩:=aJ e
 obtain⟨_,s7,e7,e⟩:=aJ e
 cases e
 exact((((((kq (by omega) e1).trans (kq (by omega) e2)).trans (tH e3)).trans (tI e4)).trans (kq (by omega) e5)).trans (tH e6)).trans (tI e7)
theorem mN{S:bE}{s s':Dev}{i v:Int}{r:Int×bE}(hL:dG S.L)(e:S.store s i v= .ok r s'):K8 s s':=by
 have hA:=jr hL.c
 unfold bE.store at e
 split at e
 ·cases e;exact .refl
 rename_i hi
 split at e
 ·obtain⟨x,t,e1,e⟩:=aJ e
  have h1:=xO hL e1
  split at e
  ·cases e;exact h1
  ·obtain⟨y,u,e2,e⟩:=aJ e
   cases e;exact h1.trans (kq (by omega) e2)
 ·obtain⟨y,u,e2,e⟩:=aJ e
  cases e;exact kq (by omega) e2
theorem wB{a h0:Int}:∀ (f:Nat) (i:Int) (S:bE) (s:Dev) (r:(Int×Int)×bE) (s':Dev),dG S.L→eY gj a h0 f i s S= .ok r s'→K8 s s'
 | 0,i,S,s,r,s',_,e=>by cases e;exact .refl
 | f+1,i,S,s,r,s',hL,e=>by
   unfold eY at e
   obtain⟨⟨x,S1⟩,s1,e1,e⟩:=aJ e
   have h1:=mN hL e1
   split at e
   ·cases e;exact h1
   ·exact h1.trans (wB f _ _ _ _ _ (ka hL e1) e)
theorem zu{c:Cfg}{w r:Int}{S:bE}{s:Dev}{x:(Int×Int)×bE}{s':Dev}(hL:dG S.L)(e:cO gj c w r s S= .ok x s'):K8 s s':=by
 unfold cO at e
 split at e
 ·cases e;exact .refl
 split at e
 ·cases e;exact .refl
 split at e
 ·cases e;exact .refl
 ·obtain⟨⟨y,S1⟩,s1,e1,e⟩:=aJ e
  have h1:=mN hL e1
  split at e
  ·cases e;exact h1
  ·exact h1.trans (wB _ _ _ _ _ _ (ka hL e1) e)
theorem K8.readC{c:Cfg}(hc:bA c){s s':Dev}(h:K8 s s')(hn:(s.n:Int)=c.words)(hr:s.readC=(c,0)):s'.readC=(c,0):=by
 have hA:=jr hc
 have hl:∀ k:Nat,k<8→s'.load k=s.load k:=fun k hk=>by
  rw[km (k:=k) rfl (by rw[h.n];omega),km (k:=k) rfl (by omega)];exact h.now k hk
 have hw:∀ k:Nat,k<3→cm s' k=cm s k:=fun k hk=>by
  have:=hl (1+k) (by omega)
  unfold cm
  rw[show(1+(k:Int))=((1+k:Nat):Int) by omega,this]
 have k0:s'.load 0=s.load 0:=hl 0 (by omega)
 have k1:s'.load 1=s.load 1:=hl 1 (by omega)
 have k2:s'.load 2=s.load 2:=hl 2 (by omega)
 have k3:s'.load 3=s.load 3:=hl 3 (by omega)
 rw[←hr]
 unfold Dev.readC
 rw[h.n,k0,k1,k2,k3,hw 0 (by omega),hw 1 (by omega),hw 2 (by omega)]
theorem Cw{T:gG}{k:Int}(h1:0≤T.last∧T.last+1≤1000000000)(h2:T.at_.length+1≤800000)(h3:∀ p∈T.at_,0≤p.2∧p.2≤1000000)(hk:0≤k∧k≤1000000):
 (0≤(T.take k).2.last∧(T.take k).2.last≤1000000000)∧(T.take k).2.at_.length≤800000∧(∀ p∈(T.take k).2.at_,0≤p.2∧p.2≤1000000):=by
 unfold gG.take
 split
 ·exact⟨by simp only;omega,by simp only;omega,h3⟩
 split
 ·exact⟨by simp only;omega,by simp only;omega,h3⟩
 ·refine⟨by simp only;omega,?_,fun p hp=> ?_⟩
  ·have:=o8 T.at_ (T.last+1) k
   simp only;omega
  ·rcases u4 hp with e | e
   ·rw[e];exact hk
   ·exact h3 p e
structure HO(kp:Prop)(c:Cfg)(N bd:Nat)(old:Nat→Int)(js:List Nat)(h:HpS)(s:Dev)(a u u0:Int)(L:List Int):Prop where
 hbd:h.bd=bd
 hcc:h.c=c
 ho:h.o=true
 ss:In kp c N old js h.S s
 dd:h.S.L.d=bd
 hm:HM c s.load a u L
 rc:s.readC=(c,0)
 hw:ef h s
 ff:h.S.ff=c.frm a+u0
 ft:h.S.ft=c.frm a+c.space
 ule:0≤u0∧u0≤u
theorem mO{kp:Prop}{c:Cfg}(hc:bA c){N bd:Nat}{old:Nat→Int}{js:List Nat}{h:HpS}{s:Dev}(hcc:h.c=c)(hbd:h.bd=bd)(hi:In kp c N old js h.S s)(hd:h.S.L.d=bd)(hu:U64 s)(hx:h.X=none)(t1:0≤h.T.last∧h.T.last≤1000000000)(t2:h.T.at_.length≤800000)(t3:∀ p∈h.T.at_,0≤p.2∧p.2≤1000000):ef h s:=by
 have hA:=jr hc
 have hN:=hi.hN
 exact⟨by rw[hcc];exact hc,⟨hi.logw,by rw[hi.n];omega,by rw[hbd];exact hd,by rw[hcc];exact hi.hc⟩,fun _=>⟨wD hi hc (by omega),x6 hi hc (by omega)⟩,hu,t1,t2,t3,fun X hX=>by rw[hx] at hX;cases hX⟩
theorem HC.blk{kp:Prop}{c:Cfg}{N bd:Nat}{h:HpS}{s:Dev}{a u:Int}{L:List Int}(H:HC kp c N bd h s a u L):h.blk s=AE c s.load a u:=by
 show(s.block h.c).1=_
 rw[H.hcc,H.hm.block]
theorem HO.blk{kp:Prop}{c:Cfg}{N bd:Nat}{old:Nat→Int}{js:List Nat}{h:HpS}{s:Dev}{a u u0:Int}{L:List Int}(H:HO kp c N bd old js h s a u u0 L):h.blk s=AE c s.load a u:=by
 show(s.block h.c).1=_
 rw[H.hcc,H.hm.block]
theorem HC.bok{kp:Prop}{c:Cfg}{N bd:Nat}{h:HpS}{s:Dev}{a u:Int}{L:List Int}(H:HC kp c N bd h s a u L):(s.block h.c).2=0:=by rw[H.hcc,H.hm.block]
theorem HC.begin{kp:Prop}{c:Cfg}(hc:bA c){N bd:Nat}{h:HpS}{s:Dev}{a u:Int}{L:List Int}(H:HC kp c N bd h s a u L){room:Int}(h0:0≤room)(hr:¬ c.space - u<room){x:Int}{h':HpS}{s':Dev}(hb:h.begR s room x h' s'):
 x=0∧s'=s∧h'.T=h.T∧HO kp c N bd s.now [] h' s a u u L:=by
 have hbl:=H.blk
 rcases hb with ⟨h1,_⟩ | ⟨_,h1,_⟩ | ⟨_,_,a1,h1,s1,hor,hor2⟩
 ·rw[H.ho] at h1;cases h1
 ·omega
 rcases hor with ⟨h2,_⟩ | ⟨h2,rfl,rfl,rfl⟩
 ·rw[hbl,H.hcc] at h2;exact absurd h2 hr
 rcases hor2 with ⟨h3,_⟩ | ⟨_,h3,_⟩ | ⟨_,h3,rfl,rfl,rfl⟩
 ·exact absurd aa h3
 ·rw[show HpS.blk {h with X:=none} s1=h.blk s1 from rfl,hbl,H.hcc] at h3;exact absurd h3 hr
 have hS:=H.sk
 have hi:In kp c N s'.now [] (h.S.fresh ((h.blk s').place h.c (h.blk s').used) ((h.blk s').place h.c h.c.space)) s':=zx hS.still H.hkp hS.n hS.hN hS.lc hS.lw hS.ln hS.sh
 refine⟨rfl,rfl,rfl,⟨H.hbd,H.hcc,rfl,hi,?_,H.hm,H.rc,mO hc H.hcc H.hbd hi ?_ hS.u aa H.hw.t1 H.hw.tl H.hw.tp,?_,?_,H.hm.u0.1,Int.le_refl _⟩⟩
 ·exact hS.ld
 ·exact hS.ld
 ·show(h.blk s').place h.c (h.blk s').used=_
  rw[hbl,H.hcc];rfl
 ·show(h.blk s').place h.c h.c.space=_
  rw[hbl,H.hcc];rfl
section
variable {kp:Prop} {c:Cfg} {N bd:Nat} {old:Nat→Int} {js:List Nat} {h:HpS} {s:Dev} {a u u0:Int} {L:List Int}
theorem HO.uu(H:HO kp c N bd old js h s a u u0 L):U64 s:=H.hw.u
theorem HO.nc(H:HO kp c N bd old js h s a u u0 L):(s.n:Int)=c.words:=by rw[H.ss.n];exact H.ss.hN
theorem HO.put(hc:bA c)(H:HO kp c N bd old js h s a u u0 L)(hx:h.X=none){i v:Int}(hv:0≤v∧v<18446744073709551616)(hi:c.active≤i∧i<N)
 (hk:(∃ k∈L,∃ j,orf s.load k≤j∧j+1<osz s.load k∧i=k+1+j)∨((v=0∨v∈L)∧((∃ k∈L,∃ j,0≤j∧j<orf s.load k∧i=k+1+j)∨∃ r:Nat,(r:Int)<c.roots∧i=c.root r)))
 (hr:(h.S.ff≤i∧i<h.S.ft)∨i.toNat∈js∨(js.length:Int)<c.log):
 ∃ S' s' js',h.S.store s i v= .ok (0,S') s'∧HO kp c N bd old js' {h with S:=S'} s' a u u0 L∧(∀ x∈js,x∈js')∧js'.length≤js.length+1∧(¬ (h.S.ff≤i∧i<h.S.ft)∨js'=js)∧∀ j:Int,c.active≤j→s'.load j=if j=i then v else s.load j:=by
 have hA:=jr hc
 have hN:=H.ss.hN
 obtain⟨S',s',js',e1,e2,e3,e4,e5,e6⟩:=va H.ss hc (i:=i.toNat) v (by omega) hv H.uu (hr.imp (fun h=>by omega) id)
 rw[show((i.toNat:Nat):Int)=i by omega] at e1 e5 e6
 have hm':=H.hm.set hc e6 hk
 refine⟨S',s',js',e1,⟨H.hbd,H.hcc,H.ho,e2,e4.2.2.1.trans H.dd,hm',(mN H.ss.logw e1).readC hc H.nc H.rc,mO hc H.hcc H.hbd e2 (e4.2.2.1.trans H.dd) e3 hx H.hw.t1 H.hw.tl H.hw.tp,e4.1.trans H.ff,e4.2.1.trans H.ft,H.ule⟩,fun x hx=> ?_,?_,?_,e6⟩
 ·rcases e5 with e5 | ⟨e5,_⟩<;>rw[e5]
  ·exact hx
  ·exact List.mem_append_left _ hx
 ·rcases e5 with e5 | ⟨e5,_⟩<;>rw[e5]<;>simp
 ·rcases e5 with e5 | ⟨_,e5⟩
  ·exact .inr e5
  ·exact .inl (by simpa using e5)
theorem HO.alloc(hc:bA c)(H:HO kp c N bd old js h s a u u0 L)(hx:h.X=none){w r:Int}(hw:0≤r∧r≤w∧w≤64)(hroom:¬ c.space - u<w+1)(hr:(c.active+1).toNat∈js∨(js.length:Int)<c.log)(hl:h.T.last+1≤1000000000)(htl:h.T.at_.length+1≤800000):
 ∃ h' s' js',h.alloc s w r= .ok (((h.T.take (c.frm a+u)).1,0),h') s'∧HO kp c N bd old js' h' s' a (u+(w+1)) u0 (L++[c.frm a+u])∧h'.X=none∧h'.T=(h.T.take (c.frm a+u)).2∧(js'=js∨js'=js++[(c.active+1).toNat])∧js'.length≤js.length+1∧
  ∀ j,c.active≤j→s'.load j=if c.frm a+u≤j∧j<c.frm a+u+(w+1) then (if j=c.frm a+u then eA w r else 0) else if j=c.active+1 then u+(w+1) else s.load j:=by
 have hu0:=H.hm.u0
 have hf:=vk hc H.hm.a01
 have hr1':=hc.r1
 have hle:=H.ule
 obtain⟨S',s',js',e1,e2,e3,e4,e5,e5',e6,e7⟩:=zy hc H.ss H.uu H.hm hw hroom (by rw[H.ff];omega) H.ft (by rw[H.ff];omega) hr
 have hT:=Cw (T:=h.T) (k:=c.frm a+u) ⟨H.hw.t1.1,hl⟩ htl H.hw.tp (by omega)
 refine⟨{h with S:=S',T:=(h.T.take (c.frm a+u)).2},s',js',?_,⟨H.hbd,H.hcc,H.ho,e2,e4.2.2.1.trans H.dd,e6,(zu H.ss.logw e1).readC hc H.nc H.rc,mO hc H.hcc H.hbd e2 (e4.2.2.1.trans H.dd) e3 hx hT.1 hT.2.1 hT.2.2,e4.1.trans H.ff,e4.2.1.trans H.ft,by omega⟩,hx,rfl,e5',e5,e7⟩
 unfold HpS.alloc
 rw[if_pos H.ho,H.hcc,e1]
 simp only[aR]
 rw[if_neg (by simp)]
theorem HO.obj(hc:bA c)(H:HO kp c N bd old js h s a u u0 L){n k:Int}(hn:bP h.T.at_ n=some k)(hk:k∈L):h.obj s n=((osz s.load k - 1,orf s.load k,k),0):=by
 unfold HpS.obj
 rw[hn,if_pos (show(some k).isSome=true from rfl),H.blk,H.hcc]
 show s.objOf c _ k=_
 exact(rI hc H.hm.bw H.hm.heap hk).1
theorem HO.write(hc:bA c)(H:HO kp c N bd old js h s a u u0 L)(hx:h.X=none){n k i v:Int}(hn:bP h.T.at_ n=some k)(hk:k∈L)(hi:orf s.load k≤i∧i+1<osz s.load k)(hv:0≤v∧v<18446744073709551616)(hr:(h.S.ff≤k+1+i∧k+1+i<h.S.ft)∨(k+1+i).toNat∈js∨(js.length:Int)<c.log):
 ∃ h' s' js',h.write s n i v= .ok (0,h') s'∧HO kp c N bd old js' h' s' a u u0 L∧h'.X=none∧h'.T=h.T∧(∀ x∈js,x∈js')∧js'.length≤js.length+1∧(¬ (h.S.ff≤k+1+i∧k+1+i<h.S.ft)∨js'=js)∧∀ j:Int,c.active≤j→s'.load j=if j=k+1+i then v else s.load j:=by
 have hz:=il s.load k
 have hf:=vk hc H.hm.a01
 have hr1':=hc.r1
 have ht:=H.hm.tile.mem hk
 have hu0:=H.hm.u0
 have hN:=H.ss.hN
 obtain⟨S',s',js',e1,e2,e3,e4,e5,e6⟩:=H.put hc hx (i:=k+1+i) hv (by omega) (.inl ⟨k,hk,i,hi.1,hi.2,rfl⟩) hr
 refine⟨_,s',js',?_,e2,hx,rfl,e3,e4,e5,e6⟩
 have ho:cq (osz s.load k - 1,orf s.load k,k) i false=(k+1+i,0):=by
  unfold cq
  rw[if_neg (by simp only;omega),if_neg (by simp;omega)]
 unfold HpS.write
 rw[if_pos H.ho,H.obj hc hn hk,if_neg (by simp)]
 unfold iO
 simp only
 rw[ho,if_neg (by simp),show gj (k+1+i) v s h.S= .ok (0,S') s' from e1]
 rfl
theorem HO.commit(hc:bA c)(H:HO kp c N bd old js h s a u u0 L)(hx:h.X=none):
 ∃ h' s',h.commit s= .ok (0,h') s'∧HC kp c N bd h' s' a u L∧h'.X=none∧h'.T=h.T∧(kp→AO s')∧∀ j:Int,c.active≤j→s'.load j=s.load j:=by
 have hA:=jr hc
 have hN:=H.ss.hN
 obtain⟨s',e1,e2,e3,e4,e5,e6⟩:=xR H.ss hc
 have hk:=CB H.ss.logw
 have hck:=ul H.ss.logw e1
 have hu':=hck.1 H.uu
 have hld:∀ j:Int,c.active≤j→s'.load j=s.load j:=fun j hj=>by
  unfold Dev.load Dev.has
  rw[e3,H.ss.n]
  split
  ·rw[e4,oy (by omega)]
  ·rfl
 have h8:K8 s s':=⟨by rw[e3,H.ss.n],fun x hx=>by rw[e4,oy (by omega)]⟩
 have hsk:SK c N bd {h.S with L:=h.S.L.shut} s':=⟨e2,hu',e3,hN,hk.2.2.1.trans H.ss.hc,hk.1,hk.2.1,hk.2.2.2.trans H.dd,e6⟩
 refine⟨{h with o:=false,S:={h.S with L:=h.S.L.shut}},s',?_,⟨H.hbd,H.hcc,rfl,hsk,H.hm.congr hc hld,h8.readC hc H.nc H.rc,⟨H.hw.c,⟨hsk.lw,by rw[e3];omega,by rw[H.hbd];exact hsk.ld,by rw[H.hcc];exact hsk.lc⟩,fun x=>(by cases x),hu',H.hw.t1,H.hw.tl,H.hw.tp,fun X hX=>by rw[show h.X=some X from hX] at hx;cases hx⟩,fun hp=>(e5 hp).kept⟩,hx,rfl,e5,hld⟩
 unfold HpS.commit
 rw[if_pos H.ho,e1]
 rfl
end
theorem xB(B:World)(Fr:List HP)(x0 x1 x2:Int)(hx:0≤x0∧0≤x1∧0≤x2)(c:Cfg)(hcm:c=mkC x0 x1 x2):
 ∀ w,Holds B Fr w→Calls Tryz.prog 44 [.agg #[u16 x0,u16 x1,u16 x2],.slice none 0 0].toArray w (Ret B (fun rv H'=>∃ (bd bh bm br N:Nat) (s:Dev),(N:Int)=c.words∧HC True c N bd (iQ bd c s) s 0 0 []∧rv= .tuple #[ptr bd,ptr bh,ptr bm]∧H'=dC bh (iQ bd c s)::aB bd s::eF bm br c.roots.toNat c::eE br c.roots.toNat::Fr) (fun _ _=>False)):=by
 refine ao func44 aa ntmps44 aa ?_
 have hc:bA c:=by rw[hcm];exact wu hx.1 hx.2.1 hx.2.2
 have hA:=jr hc
 have hr1:=hc.r1
 refine ac (ab (kPb (aY aa) aa fun b2=>(kPa aa aa (kPa aa aa (kPa aa aa (ad (ac (ab (kPv (ah isAgg96 sizeOf96 aa aa) aa ?_)))))))))
 refine ay aa (ar call73 aa) (ww _ _ x0 x1 x2 hx.1 hx.2.1 hx.2.2) .free aa aa ?_
 refine kPb (aD zeroValue134 aa) aa fun b7=>(kPs (ax (vs:=_) sizeOf134 aa aa aa aa aa) aa (ad (ac ?_)))
 rw[←hcm]
 refine ab (kPv (ah isAgg134 sizeOf134 aa aa) aa ?_)
 refine kPm aa aa (aI aa (ar call74 aa) (dS _ _ c hc none 0 [] (by decide) (fun _ h=>absurd h (Nat.not_lt_zero _)) SlR.nil) .free aa aa ?_)
 rintro _ _ ⟨bd,pa,N,s0,hN,hf,rfl,rfl⟩
 have hfm:=pz hc hN hf
 have hu0:=ir (kG pa N) hc hf
 have hOk:=hfm.okd hc hN hu0
 have hHC:=hfm.hc hc hN hu0 bd
 have hsn:=hfm.n
 refine kPm aa aa (kPv (aA aa aa) aa (kPv (aA aa aa) aa (kPa aa aa (kPa aa aa (ad (an [9,8,7,6,5,4] rfl (ac (ac (ab (kPm aa aa (kPv (bx aa) aa ?_)))))))))))
 refine ad (bJ aa (rfl) (aq (ac (ab (kPm aa aa ?_)))))
 refine aU aa (ar call75 aa) (xT B _ bd s0 hu0 (by omega)) .free aa aa ?_ ?_
 rotate_left
 ·rintro _ _ ⟨s9,hE,hun,rfl,rfl⟩
  exact(hOk.noff hun).elim
 rintro _ _ hor
 rcases hor with ⟨e,he,hE,_,_⟩ | ⟨bh,L',s',hE,hun,rfl,rfl⟩
 ·exact absurd (hOk.open_ hc hE) he
 obtain rfl:=hOk.undo hun
 rw[show s'.readC.1=c by rw[hOk.rc]]
 refine kPm aa aa (kPv (aA aa aa) aa (kPv (aA aa aa) aa (kPa aa aa (kPa aa aa (ad (an [11,10,8,7,6,5,4] rfl (ac (ac (ab (kPm aa aa (kPv (am aa aa aa) aa ?_)))))))))))
 refine kPm aa aa ?_
 apply fW (tp:=32) (t:=29) (σ1:=[(29,_),(10,_),(8,_),(7,_),(6,_),(5,_),(4,_)]) 3 rfl (aC rfl)
 ·intro hg1
  refine al aa (aj aa) (.on aa aa (ae hg1)) aa aa (al aa (dw runUnderlying91 aa aa aa) (.on aa aa (ae hg1)) aa aa (kPv (aH aa hg1 aa) aa ?_))
  exact aV aa (aC aa) (eX hg1)
 ·intro hg1
  refine ap aa (.on aa aa (ag hg1)) aa (ap aa (.on aa aa (ag hg1)) aa (kPv (aw aa hg1 aa) aa ?_))
  exact aV aa (aC aa) (eW hg1)
 refine ad (bJ aa (rfl) (aq (ac (ab (kPm aa aa (kPm aa aa (kPv (ah isAgg134 sizeOf134 aa aa) aa ?_)))))))
 refine aI aa (ar call76 aa) (Be B _ c hc c.roots.toNat (by omega)) .free aa aa ?_
 rintro _ _ ⟨bm,br,rfl,rfl⟩
 refine kPa aa aa (kPa aa aa (kPa aa aa (ad (an [6,5,4] rfl (az ?_)))))
 exact kc results44 (.tmp aa) (.tmp aa) (.tmp aa) (fun w hw=>⟨_,⟨bd,bh,bm,br,N,_,hN,hHC,rfl,rfl⟩,((hw.dp [4,4]).pk [2,2])⟩)
theorem mX{B:World}{P:Program}{f:FuncId}{vs:Array Value}{bh bd:Nat}{Fr:List HP}{α:Type}{m:Out (α×HpS)}{enc:α→Value}{a:α}{h':HpS}{s':Dev}(e:m= .ok (a,h') s'){w:World}(h:Calls P f vs w (Ret B (fun rv H'=>∃ a h' s',m= .ok (a,h') s'∧rv=enc a∧H'=dC bh h'::aB bd s'::Fr) (fun ch H'=>∃ s',m= .off s'∧ch=dR∧H'=aB bd s'::Fr))):
 Calls P f vs w (Ret B (fun rv H'=>rv=enc a∧H'=dC bh h'::aB bd s'::Fr) (fun _ _=>False)):=
 h.mono (Ret.mono (fun rv H' ⟨a1,h1,s1,e1,e2,e3⟩=>by rw[e] at e1;cases e1;exact⟨e2,e3⟩) (fun ch H' ⟨s1,e1,_⟩=>by rw[e] at e1;cases e1))
theorem BZ{h h':HpS}{s s':Dev}{room:Int}(ho:h.o=false)(hb:h.begR s room 0 h' s'):h'.X=none:=by
 rcases hb with ⟨h1,_⟩ | ⟨_,_,h1,_⟩ | ⟨_,_,a1,h1,s1,hor,hor2⟩
 ·rw[ho] at h1;cases h1
 ·cases h1
 rcases hor2 with ⟨h3,h4,_⟩ | ⟨_,_,h4,_⟩ | ⟨rfl,_,_,rfl,_⟩
 ·exact absurd h4.symm h3
 ·cases h4
 ·rcases hor with ⟨_,h2⟩ | ⟨_,_,rfl,_⟩
  ·rcases h2 with ⟨h5,_⟩ | ⟨_,X,s2,_,S',_,hor3⟩
   ·rw[show h.o=true from h5] at ho;cases ho
   ·rcases hor3 with ⟨_,rfl⟩ | ⟨_,ord,_,rfl⟩<;>rfl
  ·rfl
section
variable {B:World} {Fr:List HP} {bh bd:Nat} {h h':HpS} {s s':Dev}
theorem Cs(hW:ef h s)(hb:h.bd=bd){n i v x:Int}(hv:0≤v∧v<18446744073709551616)(e:h.write s n i v= .ok (x,h') s'):∀ w,Holds B (dC bh h::aB bd s::Fr) w→Calls Tryz.prog 48 [ptr bh,i64 n,i64 i,w64 v].toArray w (Ret B (fun rv H'=>rv=i64 x∧H'=dC bh h'::aB bd s'::Fr) (fun _ _=>False)):=by
 subst hb;exact fun w hw=>mX e (xS B Fr bh h s hW n i v hv w hw)
theorem BT(hW:ef h s)(hb:h.bd=bd){x:Int}(e:h.commit s= .ok (x,h') s'):∀ w,Holds B (dC bh h::aB bd s::Fr) w→Calls Tryz.prog 49 [ptr bh].toArray w (Ret B (fun rv H'=>rv=i64 x∧H'=dC bh h'::aB bd s'::Fr) (fun _ _=>False)):=by
 subst hb;exact fun w hw=>mX e (vg B Fr bh h s hW w hw)
theorem Do(hW:ef h s)(hb:h.bd=bd){w_ r at_ x:Int}(e:h.alloc s w_ r= .ok ((at_,x),h') s'):∀ w,Holds B (dC bh h::aB bd s::Fr) w→Calls Tryz.prog 47 [ptr bh,.agg #[i64 w_,i64 r]].toArray w (Ret B (fun rv H'=>rv= .tuple #[i64 at_,i64 x]∧H'=dC bh h'::aB bd s'::Fr) (fun _ _=>False)):=by
 subst hb;exact fun w hw=>mX (enc:=fun a:Int×Int=> .tuple #[i64 a.1,i64 a.2]) e (vd B Fr bh h s hW w_ r w hw)
theorem Cy(hW:ef h s)(hb:h.bd=bd):∀ w,Holds B (dC bh h::aB bd s::Fr) w→Calls Tryz.prog 50 [ptr bh].toArray w (a8 B (dC bh h::aB bd s::Fr) (Cb (h.stats s))):=by
 subst hb;exact qH B Fr bh h s hW
theorem Di{kp:Prop}{c:Cfg}(hc:bA c){N:Nat}{a u:Int}{L:List Int}(H:HC kp c N bd h s a u L){room:Int}(h0:0≤room)(hr:¬ c.space - u<room):∀ w,Holds B (dC bh h::aB bd s::Fr) w→Calls Tryz.prog 46 [ptr bh,i64 room].toArray w (Ret B (fun rv H'=>∃ h',h'.X=none∧h'.T=h.T∧HO kp c N bd s.now [] h' s a u u L∧rv=i64 0∧H'=dC bh h'::aB bd s::Fr) (fun _ _=>False)):=by
 have hb:=H.hbd
 subst hb
 refine fun w hw=>(xW B Fr bh h s H.hw H.bok room w hw).mono (Ret.mono ?_ ?_)
 ·rintro rv H' ⟨x,h',s',hb,rfl,rfl⟩
  obtain⟨rfl,rfl,hT,HO'⟩:=H.begin hc h0 hr hb
  have hx:h'.X=none:=BZ H.ho hb
  exact⟨h',hx,hT,HO',rfl,rfl⟩
 ·rintro ch H' ⟨s',⟨_,h1,_⟩,_⟩
  rw[H.blk,H.hcc] at h1
  exact absurd h1 hr
end
theorem Dw{s:Dev}{c:Cfg}{b:Blk}(h0:b.has c 0=false):∀ (ws:List Int) (x:hO),(∀ v∈ws,v=0)→ws.foldl (s.see c b) x=x
 | [],_,_=>rfl
 | v::t,x,h=>by
   have hv:=h v (List.mem_cons_self ..)
   subst hv
   simp only[List.foldl_cons]
   rw[show s.see c b x 0=x from by unfold Dev.see;rw[if_pos (.inr h0)]]
   exact Dw h0 t x fun v hv=>h v (List.mem_cons_of_mem _ hv)
theorem ru{s:Dev}{c:Cfg}(hc:bA c){b:Blk}(hb:gi c b){ws:List Int}(h:∀ v∈ws,v=0):s.reachSize c b ws=0:=by
 have h1:=hb.act
 have h4:=iI hc (k:=b.act) (by omega)
 have h0:b.has c 0=false:=by unfold Blk.has;simp;omega
 unfold Dev.reachSize Dev.reach
 rw[Dw h0 ws _ h]
 unfold Dev.reachL
 rfl
theorem xV{kp:Prop}{c:Cfg}(hc:bA c){N bd:Nat}{h:HpS}{s:Dev}{a:Int}(H:HC kp c N bd h s a 0 [])(hT:h.T.at_=[]):h.stats s=⟨0,0,0,0,false⟩:=by
 have hz:∀ v∈h.words++(h.blk s).rts,v=0:=fun v hv=>by
  rcases List.mem_append.1 hv with hv | hv
  ·unfold HpS.words at hv
   rw[hT] at hv
   simp[cj] at hv
  ·rw[H.blk] at hv
   exact(H.hm.heap.roots v hv).resolve_right fun h=>by cases h
 unfold HpS.stats
 rw[hT,H.sk.ln,H.ho,ru H.hw.c (dB H.hw.c H.hw.u) hz,H.blk]
 rfl
theorem isW{B:World}{Fr:List HP}{bm br n bh bd:Nat}{c:Cfg}{h:HpS}{s:Dev}(hn:n≤1000)(hW:ef h s)(hb:h.bd=bd)(hst:h.stats s=⟨0,0,0,0,false⟩)(hck:s.check h.c=0):∀ w,Holds B (dC bh h::aB bd s::eF bm br n c::eE br n::Fr) w→Calls Tryz.prog 45 [ptr bm,ptr bh].toArray w (a8 B (dC bh h::aB bd s::eF bm br n c::eE br n::Fr) (.bool true)):=by
 subst hb;exact Bf B Fr bm br n c hn bh h s hW hst hck
theorem HC.check{kp:Prop}{c:Cfg}(hc:bA c){N bd:Nat}{h:HpS}{s:Dev}{a u:Int}{L:List Int}(H:HC kp c N bd h s a u L):s.check h.c=0:=by
 rw[H.hcc];exact po hc H.hw.u H.hm.block H.hm.heap
theorem uH{p:Int}(hp:p≠0):(⟨[],[],0⟩:gG).take p=(1,⟨[(1,p)],[(p,1)],1⟩):=by
 unfold gG.take
 rw[if_neg hp,if_neg (by simp[bP])]
 rfl
theorem Bb{m:Int→Int}{k w r:Int}(h:0≤r∧r≤w∧w≤64)(e:m k=eA w r):orf m k=r∧osz m k=w+1:=by
 unfold orf osz
 rw[e,sy h];exact⟨rfl,rfl⟩
theorem vA(B:World)(Fr:List HP):
 ∀ w,Holds B Fr w→Calls Tryz.prog 24 [].toArray w (a8 B Fr (.bool true)):=by
 refine ao func24 aa ntmps24 aa ?_
 obtain⟨c,hcm,hcs,hcl,hcr⟩:∃ c,c=mkC 0 0 40∧c.space=48∧c.log=3∧c.roots=1:=⟨_,rfl,rfl,rfl,rfl⟩
 have hc:bA c:=by rw[hcm];exact wu (by decide) (by decide) (by decide)
 have hA:=jr hc
 have hf0:=vk hc (a:=0) (by decide)
 refine ac (ab (kPa aa aa (ad (ac (ac (ab (ay aa (ar call43 aa) (vB _ _) .free aa aa ?_)))))))
 refine kPv (bx aa) aa (ad (bJ aa (rfl) (aq (ac (ab (kPv (aP aa (jp _ aa)) aa (aI aa (ar call44 aa) (xB B _ 0 0 40 (by decide) c hcm) .free aa aa ?_)))))))
 rintro _ _ ⟨bd,bh,bm,br,N,s,hN,H0,rfl,rfl⟩
 obtain⟨h0,hh0⟩:∃ h0:HpS,h0=iQ bd c s:=⟨_,rfl⟩
 rw[←hh0] at H0 ⊢
 have hT0:h0.T=⟨[],[],0⟩:=by rw[hh0];rfl
 refine kPm aa aa (kPv (aA aa aa) aa (kPv (aA aa aa) aa (kPv (aA aa aa) aa (kPa aa aa (kPa aa aa (kPa aa aa (ad (an [3,2,0] rfl (ac (ac (ab ?_)))))))))))
 refine kPm aa aa (kPv (dw runUnderlying91 aa aa aa) aa (kPm aa aa (al aa (aj aa) (.on aa aa (ae aa)) aa aa (al aa (aj aa) (.on aa aa (ae aa)) aa aa (ay aa (ar call45 aa) (isW (by omega) H0.hw H0.hbd (xV hc H0 (by rw[hT0])) (H0.check hc)) (.on aa aa (ae aa)) aa aa ?_)))))
 refine al aa (bx aa) (.on aa aa (ae aa)) aa aa (kPv (aH aa aa aa) aa (ad (an [22,2,0] rfl (bJ aa (rfl) (aq (ac (ab (kPm aa aa (aI aa (ar call46 aa) (Di hc H0 (by decide) (by omega)) .free aa aa ?_)))))))))
 rintro _ _ ⟨h1,hx1,hT1,H1,rfl,rfl⟩
 have hk1:h1.T.take (c.frm 0+0)=(1,⟨[(1,c.frm 0+0)],[(c.frm 0+0,1)],1⟩):=by rw[hT1,hT0];exact uH (by omega)
 obtain⟨h2,s2,js2,e2,H2,hx2,hT2,_,hjl2,hl2⟩:=H1.alloc hc hx1 (w:=2) (r:=1) ⟨by decide,by decide,by decide⟩ (by omega) (.inr (by simp;omega)) (by rw[hT1,hT0];decide) (by rw[hT1,hT0];decide)
 rw[hk1] at e2 hT2
 have hk2:=Bb (m:=s2.load) (k:=c.frm 0+0) (w:=2) (r:=1) ⟨by decide,by decide,by decide⟩ (by rw[hl2 _ (by omega),if_pos (by omega),if_pos rfl])
 obtain⟨h3,s3,js3,e3,H3,hx3,hT3,_⟩:=H2.write hc hx2 (n:=1) (k:=c.frm 0+0) (i:=1) (v:=7) (by rw[hT2];rfl) (by simp) (by omega) (by decide) (.inl (by rw[H2.ff,H2.ft];omega))
 obtain⟨h4,s4,e4,H4,hx4,hT4,_⟩:=H3.commit hc hx3
 have hu4:(h4.stats s4).used=3:=by
  show(h4.blk s4).used=3
  rw[H4.blk];rfl
 refine kPa aa aa (ad (ac (ab (kPm aa aa (kPv (aP aa (kL _ _ aa aa)) aa (dQ aa (ar call47 aa) (Do H1.hw H1.hbd e2) .free aa aa ?_))))))
 refine kPm aa aa (kPv (aA aa aa) aa (kPv (aA aa aa) aa (kPa aa aa (kPa aa aa (ad (an [6,5,4,2,0] rfl (ac (ab (kPm aa aa (kPv (am aa aa aa) aa (kPm aa aa ?_)))))))))))
 refine al aa (aj aa) (.on aa aa (ae aa)) aa aa (al aa (am aa aa aa) (.on aa aa (ae aa)) aa aa (kPv (aw aa aa aa) aa (kPm aa aa (al aa (aj aa) (.on aa aa (ae aa)) aa aa (al aa (am aa aa aa) (.on aa aa (ae aa)) aa aa (kPv (aw aa aa aa) aa (kPm aa aa (al aa (aj aa) (.on aa aa (ae aa)) aa aa (dQ aa (ar call48 aa) (Cs H2.hw H2.hbd (by decide) e3) (.on aa aa (ae aa)) aa aa ?_)))))))))
 refine al aa (am aa aa aa) (.on aa aa (ae aa)) aa aa (kPv (aw aa aa aa) aa (kPm aa aa (al aa (aj aa) (.on aa aa (ae aa)) aa aa (dQ aa (ar call49 aa) (BT H3.hw H3.hbd e4) (.on aa aa (ae aa)) aa aa ?_))))
 refine al aa (am aa aa aa) (.on aa aa (ae aa)) aa aa (kPv (aw aa aa aa) aa (kPm aa aa (al aa (aj aa) (.on aa aa (ae aa)) aa aa (ay aa (ar call50 aa) (Cy H4.hw H4.hbd) (.on aa aa (ae aa)) aa aa ?_))))
 refine al aa (ie runUnderlying106 (t:=3) (off:=0) aa isAgg3 aa aa) (.on aa aa (ae aa)) aa aa (al aa (am aa aa aa) (.on aa aa (ae aa)) aa aa (kPv (aw aa aa aa) aa (kPa aa aa (ad (an [0] rfl (az ?_))))))
 exact au results24 aa (fun w hw=>⟨by simp[hu4],(hw.dp [0,0,0,0])⟩)
def awS:List UInt8:=[97,108,108,111,99,32,49,32,50,32,35,32,97,32,110,111,100,101]
theorem D5:num [49]=some 1:=by rw[←nU];rfl
theorem D4:num [50]=some 2:=by rw[←nU];rfl
theorem AG:cH awS=([(3,[1,2])],0,0):=by
 have h1:spl 10 awS=[awS]:=by decide
 have h2:tok (bS awS) none=[[97,108,108,111,99],[49],[50]]:=by decide
 have h3:cJ [[97,108,108,111,99],[49],[50]]=((3,[1,2]),0):=rD (ws:=[[97,108,108,111,99],[49],[50]]) (k:=3) (by decide) rfl (by simp[fG,D5,D4])
 have h4:stP awS p0=(true,1,[(3,[1,2])],[],0,0):=by
  unfold stP p0
  simp only
  rw[h2,h3]
  rfl
 exact qs (by decide) (by rw[h1,u9 (by rw[h4]),h4];rfl)
theorem Av{rs:List CR}(h:p6 rs [(3,[1,2])]):∃ q c,rs=[(3,(q,2,c),[1,2])]:=by
 obtain⟨h1,h2⟩:=h
 match rs,h1 with
 | [(k,(q,n,c),l)],h1=>
   simp only[List.map_cons,List.map_nil,crC,List.cons.injEq,Prod.mk.injEq,and_true] at h1
   obtain⟨rfl,rfl⟩:=h1
   have h3:n=2:=h2 _ (List.mem_cons_self ..)
   subst h3
   exact⟨q,c,rfl⟩
theorem k9{B:World}{P:Program}{σ:Env}{H:List HP}{d:Option Tmp}{ty:TypeId}{p:String}{af:Array Edge}{g:Option (Nat×Bool)}{t:TypeId}{x:Operand}{b off k i j m cap:Nat}{cs:List (List Value)}{c:List Value}{v:Value}(ht:∀ w,(isAgg t).run P w= .ok false w)(hr:SlN B H (.slice (some ⟨b,off,none⟩) k cap) m cs)(hx:evO σ x=some (.pointer (some ⟨b,off+i*m+j,none⟩)))(hi:cs[i]? =some c)(hj:c[j]? =some v):
 Evs P B σ H ⟨d,.load t x,ty,p,af,g⟩ v:=by
 intro a w kn hh
 obtain⟨q,cp,e,hc⟩:=hr.ex
 obtain⟨b',off',e',hl,h2⟩:=hc w hh i c hi
 cases e
 cases e'
 have h3:=h2 j (by rw[←hl];exact(List.getElem?_eq_some_iff.1 hj).1)
 rw[hj, ←Nat.add_assoc] at h3
 simp[execOp,kn.eval hx,Instr.loadAt,Instr.sureAddr,loadVar,ht,load,Sem.run,h3]
theorem Dc{B:World}{H:List HP}{q:Option Addr}{c b:Nat}(h:SlR B H (.slice q 2 c) [w64 1,w64 2])(g:SlR B H (.slice (some ⟨b,0,none⟩) 2 2) [w64 1,w64 2]):
 ∀ w,Holds B H w→Calls Tryz.prog 25 [.slice q 2 c,.slice (some ⟨b,0,none⟩) 2 2].toArray w (a8 B H (.bool true)):=fun w hw=>
 ub B H q (some ⟨b,0,none⟩) c 2 [1,2] [1,2] (by decide) (by decide) (fun i hi=>vU h hw i hi) (fun _ _=>⟨_,_,rfl⟩) h g w hw
theorem B1:jb (3,[1,2])=[97,108,108,111,99,32,49,32,50]:=by
 unfold jb
 rw[if_neg (by decide)]
 show([97,108,108,111,99]++([32]++Lib.decDigits 1))++([32]++Lib.decDigits 2)=_
 rw[kH (by decide),kH (by decide)]
 rfl
theorem Dl{B:World}{H:List HP}[cM H B](gl:GL B)(fg:FG B){q:Option Addr}{c:Nat}(h:SlR B H (.slice q 2 c) [w64 1,w64 2]):
 ∀ w,Holds B H w→Calls Tryz.prog 13 [.agg #[i64 3,.slice q 2 c]].toArray w (a8 B H (str [97,108,108,111,99,32,49,32,50])):=fun w hw=>by
 rw[←B1]
 exact Au B H gl fg 3 q c [1,2] (by decide) (by decide) h (fun i hi=>vU h hw i hi) w hw
theorem vz(B:World)(Fr:List HP)[cM Fr B](gl:GL B)(fg:FG B):
 ∀ w,Holds B Fr w→Calls Tryz.prog 11 [].toArray w (a8 B Fr (.bool true)):=by
 refine ao func11 aa ntmps11 aa (ac (ab (kPa aa aa (ad (ac (ac (ab (ay aa (ar call24 aa) (vA _ _) .free aa aa ?_))))))))
 refine kPv (bx aa) aa (ad (bJ aa (rfl) (aq (ac (ab (aI aa (ar call14 aa) (tf B Fr gl fg awS) .free aa aa ?_))))))
 rintro _ _ ⟨sv,hsv,rfl,rfl⟩
 rw[AG]
 refine kPm aa aa (kPv (aA aa aa) aa (kPv (aA aa aa) aa (kPv (aA aa aa) aa (kPa aa aa (kPa aa aa (kPa aa aa (ad (an [3,2,1,0] rfl (ac (rO fun rs hrs=> ?_))))))))))
 obtain⟨qa,ca,hrs1⟩:=Av hrs
 subst hrs1
 refine l9 fun q4 cap4 hq4 hqi4=> ?_
 subst hq4
 obtain⟨b4,o4,rfl⟩:=hqi4 0 (Nat.zero_lt_succ _)
 refine ab (kPm aa aa (kPv (am aa aa aa) aa (kPm aa aa (al aa (aj aa) (.on aa aa (ae aa)) aa aa (al aa (am aa aa aa) (.on aa aa (ae aa)) aa aa (kPv (aw aa aa aa) aa (kPm aa aa (al aa (aj aa) (.on aa aa (ae aa)) aa aa (al aa (bB aa runUnderlying24 ⟨_,rfl⟩ rfl) (.on aa aa (ae aa)) aa aa (al aa (am aa aa aa) (.on aa aa (ae aa)) aa aa (kPv (aw aa aa aa) aa ?_)))))))))))
 refine kPm aa aa (al aa (aj aa) (.on aa aa (ae aa)) aa aa (al aa (j0 (sz:=2) (m:=o4+0*2) runUnderlying24 sizeOf32 aa aa (by decide) (by simp) aa) (.on aa aa (ae aa)) aa aa (al aa (aE (m:=_) iJ aa aa) (.on aa aa (ae aa)) aa aa (al aa (k9 (i:=0) (j:=0) (c:=crE (3,(qa,2,ca),[1,2])) (v:=i64 3) isAgg29 (j6 ny 0 aa) aa aa aa) (.on aa aa (ae aa)) aa aa (al aa (am aa aa aa) (.on aa aa (ae aa)) aa aa (kPv (aw aa aa aa) aa (kPm aa aa (al aa (aj aa) (.on aa aa (ae aa)) aa aa (al aa (j0 (sz:=2) (m:=o4+0*2) runUnderlying24 sizeOf32 aa aa (by decide) (by simp) aa) (.on aa aa (ae aa)) aa aa (al aa (aE (m:=_) gH aa aa) (.on aa aa (ae aa)) aa aa (al aa (k9 (i:=0) (j:=1) (c:=crE (3,(qa,2,ca),[1,2])) (v:= .slice qa 2 ca) isAgg30 (j6 ny 0 aa) aa aa aa) (.on aa aa (ae aa)) aa aa ?_)))))))))))
 refine cI aa (AA runUnderlying30 sizeOf25 zeroValue25 aa aa aa aa aa) (.on aa aa (ae aa)) aa aa ?_
 rintro _ _ ⟨b34,rfl,rfl⟩
 refine ay aa (ar call25 aa) (Dc (oZ 2 aa (t:=(3,(qa,2,ca),[1,2])) (List.mem_cons_self ..) aa) (SlR.row (b:=b34) (n:=2) (cap:=2) (off:=0) (cs:=[w64 1,w64 2]) aa aa)) (.on aa aa (ae aa)) aa aa ?_
 refine kPv (aw aa aa aa) aa (kPm aa aa (al aa (aj aa) (.on aa aa (ae aa)) aa aa (al aa (j0 (sz:=2) (m:=o4+0*2) runUnderlying24 sizeOf32 aa aa (by decide) (by simp) aa) (.on aa aa (ae aa)) aa aa (al aa (gS (i:=0) (c:=crE (3,(qa,2,ca),[1,2])) isAgg32 sizeOf32 (j6 ny 1 aa) aa aa) (.on aa aa (ae aa)) aa aa (ay aa (ar call13 aa) (Dl gl fg (oZ 2 aa (t:=(3,(qa,2,ca),[1,2])) (List.mem_cons_self ..) aa)) (.on aa aa (ae aa)) aa aa ?_)))))
 refine al aa (mT aa aa aa) (.on aa aa (ae aa)) aa aa (kPv (aw aa aa aa) aa (kPa aa aa (ad (an [0] rfl (az ?_)))))
 exact au results11 aa (fun w hw=>⟨by rfl,(hw.dp [0,0,0])⟩)
theorem mM{P:Program}{n:String}{d:DataW Unit}{r:List (String×DataW Unit)}{W:World}{g:Nat}{t:TypeId}(h:laidMet P ((n,d)::r) W)(hg:P.globalNamed n=some g)(ht:(P.globals[g]?).map (·.type)=some t):
 ∃ cs fuel p,W.var? P n=some cs∧DataW.trod (fun _=>()) P W 0 (fun _=>true) false fuel t cs.toList=some (d,p):=by
 obtain⟨ps,⟨g',t',cs,fuel,p,q,hg',ht',hv,hd,_⟩,_⟩:=h
 obtain rfl:=Option.some.inj (hg.symm.trans hg')
 obtain rfl:=Option.some.inj (ht.symm.trans ht')
 exact⟨cs,fuel,p,hv,hd⟩
theorem yK(s:ByteArray):str s.data.toList= .string s:=by
 show Value.string ⟨s.data.toList.toArray⟩=_
 rw[Array.toArray_toList]
theorem py{H:Type}{enc:TypeId×Value→H}{P:Program}{W:World}{base fuel:Nat}{sp:Nat→Bool}{held:Bool}{TE:TypeId}{cs:List Value}{f0 f1:Field}{l:List UInt8}{n:Int}{p:List MemPlace}
 (ht:P.underlying TE=some (.struct #[f0,f1])) (o0:f0.offset=0) (o1:f1.offset=1) (c0:P.cellsOf f0.type=1) (c1:P.cellsOf f1.type=1) (cT:P.cellsOf TE=2) (h0:P.underlying f0.type=some .string) (h1:P.underlying f1.type=some (.int .i64))
 (h:DataW.trod enc P W base sp held fuel TE cs=some (.agg [.lit (.string l),.lit (.int .i64 n)],p)):cs=[str l,.int .i64 n]:=by
 obtain⟨y0,y1,m,e,hl,g0,g1⟩:=Go.ChangeShapes.trod_struct2 ht h
 rw[o0,c0] at g0
 rw[o1,c1] at g1
 rw[cT] at hl
 match cs,hl with
 | [u,v],_=>
   obtain⟨s,es,ey,_⟩:=DataW.trod_string h0 g0
   obtain⟨k,ek,ez,_⟩:=DataW.trod_int h1 g1
   have es:[u]=[Value.string s]:=es
   have ek:[v]=[Value.int .i64 k]:=ek
   cases es;cases ek
   rw[ey,ez] at e
   simp only[Prod.mk.injEq,DataW.agg.injEq,List.cons.injEq,DataW.lit.injEq,Lit.string.injEq,Lit.int.injEq,true_and,and_true] at e
   obtain⟨⟨rfl,rfl⟩,_⟩:=e
   rw[yK]
theorem rn{H:Type}{enc:TypeId×Value→H}{C:Checked}{os:Os}{f:FuncId}{fn:Func}{s:ChangeSpec}{conds:List PathCond}{apart fresh handsOn again:Bool}{laid:List (String×DataW Unit)}
 (own:ownKnob C.prog.godebug=none) (started:os.Started) (noInit:C.prog.inits.idxOf? f=none) (hfn:C.prog.funcs[f]? =some fn)
 (witness:∃ (w:World) (tape:Tape) (i:Input),w.os=os∧(w.forCall tape i).Shaped C.prog∧i.vars=[]∧Input.okWide C.prog (w.forCall tape i) .any w.heap.size f i∧
  ((s.pre enc C.prog fn conds apart (w.forCall tape i).memory i.args∧laidMetH C.prog laid (w.forCall tape i).memory)∧sizedMet enc C.prog fn (OpenSpec.ofChange s) apart (w.forCall tape i).memory i.args)∧({}:Assume).holds C.prog (lone (Frame.enter C.prog f i.args .normal) [] (w.forCall tape i)))
 (contract:∀ (W:World) (base:Nat) (args:Array Value) (ds gs:List (DataW H)) (before:List MemPlace),(∀ (j:Nat) t v,fn.params[j]? =some t→args[j]? =some v→Value.okWide C.prog W .any base t v)→
  DataW.Whole enc C.prog fn.params.toList s.vars apart W args.toList ds gs before→conds.all (PathCond.test C.prog ⟨fn.params.toList,ds,s.plain.varTypes C.prog,gs⟩)=true→laidMetH C.prog laid W→W.ShapedOpen C.prog→
  Calls C.prog f args W fun e W'=>∃ v,e= .returned v∧s.post enc C.prog fn apart fresh handsOn again W args v W'):
 ReturnsInHanded {} C os f .any (fun w args=>(s.pre enc C.prog fn conds apart w args∧laidMetH C.prog laid w)∧sizedMet enc C.prog fn (OpenSpec.ofChange s) apart w args) (s.post enc C.prog fn apart fresh handsOn again):=by
 refine returnsInHanded_of_calls own started noInit witness ?_
 intro w tape i _ hsh _ hok hpre _
 obtain⟨_,_,_,fn',hfn',_,_,_,_,hval⟩:=hok
 obtain rfl:fn'=fn:=Option.some.inj (hfn'.symm.trans hfn)
 obtain⟨⟨⟨ds,gs,before,hw,hc⟩,hx⟩,hz⟩:=hpre
 refine(contract (w.forCall tape i) w.heap.size i.args ds gs before hval (DataW.Whole.of_heap (w':=w.forCall tape i) (by rfl) hw) hc (laidMetH.of_heap (by rfl) hx) hsh).mono fun e W' ⟨v,he,hp⟩=> ?_
 subst he
 exact ChangeSpec.post_blind hp
def qR{H:Type}(k:Nat):DataW H:= .agg [.lit (.string (fw k)),.lit (.int .i64 (fm k))]
set_option maxRecDepth 100000 in
theorem DL{W:World}{r:List (String×DataW Unit)}(h:laidMet Tryz.prog (("tumulus/script.forms",Rows.laid_tumulus_script_forms)::r) W):FG W:=by
 obtain⟨cs,fuel,p,hv,hd⟩:=mM (g:=1) (t:=62) h (by kernel_rfl) (by kernel_rfl)
 obtain⟨xs,m,_,ex,_,hxl,hel⟩:=DataW.trod_array underlying62 hd
 have em:xs.map (·.1)=(List.range 18).map qR:=(DataW.agg.inj (Prod.mk.inj ex).1).symm.trans (by kernel_rfl)
 have c2:Tryz.prog.cellsOf 61=2:=by kernel_rfl
 have each:∀ i,i<18→(cs.toList.drop (i*2)).take 2=[str (fw i),i64 (fm i)]:=fun i hi=>by
  have h1:=hel i hi
  rw[c2,List.getElem?_eq_getElem (by omega)] at h1
  have h2:(xs[i]'(by omega)).1=qR i:=by
   have:=congrArg (fun l=>l[i]?) em
   simp only[List.getElem?_map,List.getElem?_eq_getElem (show i<xs.length by omega),List.getElem?_range hi,Option.map_some,Option.some.injEq] at this
   exact this
  rw[show xs[i]'(by omega)=(qR i,(xs[i]'(by omega)).2) from Prod.ext h2 rfl] at h1
  exact py underlying61 aa aa (by kernel_rfl) (by kernel_rfl) (by kernel_rfl) underlying9 underlying3 h1
 refine⟨fun i hi=>⟨_,_,rfl,rfl,fun j hj=> ?_⟩⟩
 have h1:=each (j / 2) (by omega)
 have h2:=mQ (j / 2) (by omega)
 have h3:=congrArg (fun l=>l[j%2]?) (h1.trans h2.symm)
 simp only[List.getElem?_take,List.getElem?_drop,if_pos (show j%2<2 by omega),show j / 2*2+j%2=j by omega] at h3
 rw[←h3,show 0+(i*36+j)=j by omega]
 exact(World.var?_cell (by kernel_rfl) hv j).trans (by simp)
set_option maxRecDepth 100000 in
theorem DB{W:World}{r:List (String×DataW Unit)}(h:laidMet Tryz.prog (("tumulus/tumuluslaw18.forms",Rows.laid_tumulus_tumuluslaw18_forms)::r) W):LF W:=by
 obtain⟨cs,fuel,p,hv,hd⟩:=mM (g:=0) (t:=56) h (by kernel_rfl) (by kernel_rfl)
 have e0:(Rows.laid_tumulus_tumuluslaw18_forms:DataW Unit)= .slice ((List.range 18).map qR) []:=by kernel_rfl
 rw[e0] at hd
 rcases Go.Deep.open_slice underlying56 hd with ⟨_,hx⟩ | ⟨y,len,cap,m,n,D,Pl,hcs,_,hl,hm,hmm,hx,hel⟩
 ·cases hx
 ·have hx1:(List.range 18).map qR=(List.range len).map D:=by injection hx with hx _;injection hx with hx _
  have hlen:len=18:=by have:=congrArg List.length hx1;simpa using this.symm
  subst hlen
  have hD:∀ i,i<18→D i=qR i:=fun i hi=>by
   have:=congrArg (fun l=>l[i]?) hx1
   simp only[List.getElem?_map,List.getElem?_range hi,Option.map_some,Option.some.injEq] at this
   exact this.symm
  have hm18:18≤m:=by rw[hmm];split<;>omega
  have c2:Tryz.prog.cellsOf 55=2:=by kernel_rfl
  have each:∀ i,i<18→W.cell? (y.add (i*2))=some (str (fw i))∧W.cell? ((y.add (i*2)).add 1)=some (i64 (fm i)):=fun i hi=>by
   obtain⟨cs',h1,h2⟩:=hel i (by omega)
   rw[c2] at h1
   rw[hD i hi] at h2
   have h3:=py underlying55 rfl rfl (by kernel_rfl) (by kernel_rfl) (by kernel_rfl) underlying9 underlying3 h2
   subst h3
   have hs:=World.cells?_some h1
   exact⟨hs.2.2 0 (by decide),hs.2.2 1 (by decide)⟩
  obtain⟨b,o,s⟩:=y
  have hs:s=none:=by
   have h1:=(each 0 (by decide)).1
   have e0:(⟨b,o,s⟩:Addr).add (0*2)=⟨b,o,s⟩:=rfl
   rw[e0] at h1
   unfold World.cell? at h1
   split at h1
   ·cases s with
    | none=>rfl
    | some q=>simp at h1
   ·cases h1
  subst hs
  refine⟨b,o,cap,?_,⟨fun i hi=>⟨b,o,rfl,rfl,fun j hj=> ?_⟩⟩⟩
  ·have:=World.var?_cell (g:=0) (by kernel_rfl) hv 0
   rw[this, ←Array.getElem?_toList,hcs];rfl
  ·obtain⟨h1,h2⟩:=each i hi
   match j,hj with
   | 0,_=>exact(congrArg W.cell? (fC b o (i*2))).symm.trans h1
   | 1,_=>exact((congrArg (fun a:Addr=>W.cell? (a.add 1)) (fC b o (i*2))).trans (congrArg W.cell? (fC b (o+i*2) 1))).symm.trans h2
set_option maxRecDepth 100000 in
theorem DC{W:World}{r:List (String×DataW Unit)}(hs:W.ShapedOpen Tryz.prog)(h:laidMet Tryz.prog (("math/bits.deBruijn32tab",Rows.laid_math_bits_deBruijn32tab)::("math/bits.deBruijn64tab",Rows.laid_math_bits_deBruijn64tab)::("internal/strconv.uint64pow10",Rows.laid_internal_strconv_uint64pow10)::("unicode/utf8.acceptRanges",Rows.laid_unicode_utf8_acceptRanges)::("strconv.ErrRange",Rows.laid_strconv_ErrRange)::("strconv.ErrSyntax",Rows.laid_strconv_ErrSyntax)::r) W):GL W:=by
 have h2:=h.tail.tail
 have h4:=h2.tail.tail
 have cell:∀ {nm:String} {d d2:DataW Unit} {r:List (String×DataW Unit)} {g ti:Nat},laidMet Tryz.prog ((nm,.iface "*errors.errorString" d)::r) W→Tryz.prog.globalNamed nm=some g→(Tryz.prog.globals[g]?).map (·.type)=some ti→ti=76→∃ te pe,W.cell? ⟨g,0,none⟩=some (.iface te pe):=by
  intro nm d d2 r g ti h hg ht e
  subst e
  obtain⟨cs,fuel,p,hv,hd⟩:=mM h hg ht
  obtain⟨_,u,v,e,_⟩:=iface_of_trod underlying76 hd
  refine⟨u,v,?_⟩
  rw[World.var?_cell hg hv 0, ←Array.getElem?_toList,e];rfl
 refine⟨Lib.tabIs_of_head (g:=2) (by kernel_rfl) (by kernel_rfl) underlying181 underlying25 (by kernel_rfl) (by kernel_rfl) (show laidMet Tryz.prog (("internal/strconv.uint64pow10",Lib.tabData .u64 Lib.pow10Tab)::_) W from h2),?_,cell (g:=6) (d2:= .nil) h4.tail (by kernel_rfl) (by kernel_rfl) aa,cell (g:=7) (d2:= .nil) h4 (by kernel_rfl) (by kernel_rfl) aa⟩
 exact cell_of_shapedOpen_int (g:=3) (zero:= #[.int .i64 0]) hs (by decide+kernel) (by kernel_rfl) (by kernel_rfl) (by kernel_rfl) (by kernel_rfl) underlying3
theorem yb(s:ByteArray):∃ l:List UInt8,Value.string s=str l∧l.length=s.size:=⟨s.data.toList,(yK s).symm,Array.length_toList⟩
structure uF(c:Cmd):Prop where
 k:0≤c.1∧c.1<18
 n:c.2.length=fm c.1.toNat
 b:∀ n∈c.2,0≤n∧n<18446744073709551616
theorem CS{s:List UInt8}{u:Nat}(h:num s=some u):u<18446744073709551616:=by
 unfold num at h
 split at h
 ·rename_i v hv
  split at h
  ·cases h;exact tg hv
  ·cases h
 ·cases h
theorem wp:∀ {l:List (List UInt8)} {ns:List Int},fG l=some ns→ns.length=l.length∧∀ n∈ns,0≤n∧n<18446744073709551616
 | [],ns,h=>by cases h;exact⟨rfl,fun n hn=>by cases hn⟩
 | s::t,ns,h=>by
   unfold fG at h
   cases hn:num s with
   | none=>rw[hn] at h;cases h
   | some u=>
     rw[hn] at h
     cases ht:fG t with
     | none=>simp[ht] at h
     | some m=>
       simp only[ht,Option.map_some,Option.some.injEq] at h
       subst h
       obtain⟨h1,h2⟩:=wp ht
       have hu:=CS hn
       refine⟨by simp[h1],fun n hn=> ?_⟩
       rcases List.mem_cons.1 hn with rfl | hn
       ·omega
       ·exact h2 n hn
theorem Bh{ws:List (List UInt8)}(h:(cJ ws).2=0):uF (cJ ws).1:=by
 unfold cJ at h ⊢
 cases hk:gB (ws.getD 0 []) with
 | none=>rw[hk] at h;cases h
 | some p=>
   obtain⟨k,m⟩:=p
   obtain⟨_,h2,_,rfl⟩:=iP hk
   rw[hk] at h
   simp only at h ⊢
   split at h
   ·cases h
   ·rename_i hl
    rw[if_neg hl]
    cases hn:fG (ws.drop 1) with
    | none=>rw[hn] at h;cases h
    | some ns=>
      obtain⟨h3,h4⟩:=wp hn
      refine⟨⟨by simp only;omega,by simp only;omega⟩,?_,h4⟩
      simp only[List.length_drop] at h3 ⊢
      rw[Int.toNat_natCast]
      omega
theorem Cl:∀ (l:List (List UInt8)) (x:PSt),x.2.1.length≤400→(∀ c∈x.2.1,uF c)→(itl stP l x).2.2.1.length≤400∧∀ c∈(itl stP l x).2.2.1,uF c
 | [],x,h1,h2=>⟨h1,h2⟩
 | a::t,x,h1,h2=>by
   have key:(stP a x).2.2.1.length≤400∧∀ c∈(stP a x).2.2.1,uF c:=by
    unfold stP
    simp only
    split
    ·exact⟨h1,h2⟩
    ·split
     ·exact⟨h1,h2⟩
     ·rename_i h3
      split
      ·exact⟨h1,h2⟩
      ·rename_i h4
       refine⟨by simp only[List.length_append,List.length_cons,List.length_nil];omega,fun c hc=> ?_⟩
       rcases List.mem_append.1 hc with hc | hc
       ·exact h2 c hc
       ·rw[List.mem_singleton.1 hc];exact Bh (by simpa using h4)
   unfold itl
   split
   ·exact Cl t _ key.1 key.2
   ·exact key
theorem zc(s:List UInt8):(cH s).1.length≤400∧∀ c∈(cH s).1,uF c:=by
 unfold cH
 split
 ·exact⟨by simp,fun c hc=>by cases hc⟩
 ·split
  ·exact Cl _ p0 (by decide) fun c hc=>by cases hc
  ·rename_i h
   have:=ri (spl 10 s) p0 (by simpa using h)
   rw[this]
   exact⟨by simp,fun c hc=>by cases hc⟩
theorem uF.len{c:Cmd}(h:uF c):c.2.length≤3:=by
 rw[h.n];exact tW _ (by have:=h.k;omega)
theorem Ax{B:World}{H:List HP}{q:Option Addr}{cap:Nat}{rs:List CR}{l:List Cmd}(hr:p6 rs l)(hl:∀ c∈l,c.2.length≤1000000)(i j:Nat)(e:H[i]? =some (gF 32 2 crE 0 (.slice q rs.length cap,rs)))(e2:H[j]? =some (grp (rs.map iV))):CmR B H q cap rs:=by
 refine⟨j6 ny i e,fun t ht=>⟨oZ j e2 ht (hr.2 t ht),hr.2 t ht,hl (crC t) ?_⟩⟩
 rw[←hr.1];exact List.mem_map_of_mem ht
theorem tJ{B:World}{Fr:List HP}{sv:Value}{rs:List CR}{w:World}(h:Holds B (gF 32 2 crE 0 (sv,rs)::Fr) w):∃ q cap,sv= .slice q rs.length cap:=by
 rcases eI h with ⟨e1,e2,_⟩ | ⟨bd,pre,rest,k,_,e,_⟩
 ·exact⟨none,0,by rw[e2,e1];rfl⟩
 ·exact⟨_,_,e⟩
theorem xr{B:World}{Fr:List HP}{s1 s2:Value}{l1 l2:List Cmd}(h1:∀ c∈l1,c.2.length≤1000000)(h2:∀ c∈l2,c.2.length≤1000000)(n1:l1.length≤1000000)(n2:l2.length≤1000000):
 ∀ w,Holds B (gh 0 (s1,l1)::gh 0 (s2,l2)::Fr) w→Calls Tryz.prog 15 [s1,s2].toArray w (a8 B (gh 0 (s1,l1)::gh 0 (s2,l2)::Fr) (.bool (decide (l1=l2)))):=fun w hw=>by
 obtain⟨r1,k1,g1⟩:=lA hw
 have g2:=g1.front 2 rfl
 obtain⟨r2,k2,g3⟩:=lA g2
 obtain⟨q2,c2,rfl⟩:=tJ g3
 obtain⟨q1,c1,rfl⟩:=tJ (g3.front 2 rfl)
 have e1:r1.length=l1.length:=by rw[←k1.1,List.length_map]
 have e2:r2.length=l2.length:=by rw[←k2.1,List.length_map]
 have g4:=A3 B _ q1 q2 c1 c2 r1 r2 (by omega) (by omega) (Ax k1 h1 2 3 rfl rfl) (Ax k2 h2 0 1 rfl rfl) w g3
 rw[k1.1,k2.1] at g4
 refine g4.mono fun e w' h=> ?_
 have back:∀ w',Holds B (gF 32 2 crE 0 (.slice q2 r2.length c2,r2)::grp (r2.map iV)::gF 32 2 crE 0 (.slice q1 r1.length c1,r1)::grp (r1.map iV)::Fr) w'→Holds B (gh 0 (.slice q1 r1.length c1,l1)::gh 0 (.slice q2 r2.length c2,l2)::Fr) w':=fun w' h=>
  fA k1 ((fA k2 h).pk [1,1])
 exact⟨h.1,back _ h.2⟩
structure Ln where
 k:Nat
 n:List Int
 g:Nat
structure LnW(x:Ln):Prop where
 k:x.k≤255
 n:x.n.length=3
 b:∀ n∈x.n,0≤n∧n<18446744073709551616
 g:x.g≤255
def sZ(g:Nat):List UInt8:=[[],[32],[9,32]].getD (g%3) []
def oB(g:Nat):List UInt8:=[[32],[32,32],[9]].getD (g / 3%3) []
def ra(g:Nat):List UInt8:=[[],[32],[32,35,32,97,32,114,101,109,97,114,107],[35]].getD (g / 9%4) []
def Ln.c(x:Ln):Cmd:=((x.k%18:Nat),x.n.take (fm (x.k%18)))
def Ln.m(x:Ln):List UInt8:=x.c.2.foldl (fun l n=>l++(oB x.g++Lib.decDigits n.toNat)) (sZ x.g++fw (x.k%18))
def Ln.t(x:Ln):List UInt8:=x.m++ra x.g
theorem Ln.line(x:Ln):jb x.c=x.c.2.foldl (fun l n=>l++([32]++Lib.decDigits n.toNat)) (fw (x.k%18)):=by
 unfold jb
 rw[if_neg (by show ¬ (((x.k%18:Nat):Int)<0∨18≤((x.k%18:Nat):Int));omega)]
 rfl
theorem sY(g:Nat):[str [],str [32],str [9,32]][g%3]? =some (str (sZ g))∧(sZ g).length≤2:=by
 unfold sZ
 rcases (show g%3=0∨g%3=1∨g%3=2 by omega) with h | h | h<;>rw[h]<;>exact⟨rfl,by decide⟩
theorem sP(g:Nat):[str [32],str [32,32],str [9]][g / 3%3]? =some (str (oB g))∧(oB g).length≤2:=by
 unfold oB
 rcases (show g / 3%3=0∨g / 3%3=1∨g / 3%3=2 by omega) with h | h | h<;>rw[h]<;>exact⟨rfl,by decide⟩
theorem sC(g:Nat):[str [],str [32],str [32,35,32,97,32,114,101,109,97,114,107],str [35]][g / 9%4]? =some (str (ra g))∧(ra g).length≤11:=by
 unfold ra
 rcases (show g / 9%4=0∨g / 9%4=1∨g / 9%4=2∨g / 9%4=3 by omega) with h | h | h | h<;>rw[h]<;>exact⟨rfl,by decide⟩
theorem CT{a b c:Int}:∀ i,i<3→[w64 a,w64 b,w64 c][i]? =some (w64 ([a,b,c].getD i 0))∧[a,b,c].getD i 0∈[a,b,c]
 | 0,_=>⟨rfl,by simp⟩
 | 1,_=>⟨rfl,by simp⟩
 | 2,_=>⟨rfl,by simp⟩
theorem yy{u v:Value}{a b c:Int}:∀ i,i<3→[u,w64 a,w64 b,w64 c,v][1+i]? =some (w64 ([a,b,c].getD i 0))
 | 0,_=>rfl
 | 1,_=>rfl
 | 2,_=>rfl
theorem Ck{a b c:Int}{i m:Nat}(h:i<m)(hm:m≤3):∃ hl:i<([a,b,c].take m).length,([a,b,c].take m)[i]=[a,b,c].getD i 0:=by
 refine⟨by simp;omega,?_⟩
 rw[List.getElem_take,List.getD_eq_getElem?_getD,List.getElem?_eq_getElem (by simp;omega)];rfl
theorem wr{α:Type}{f:α→Int→α}{x:α}{a b c:Int}{i m:Nat}(h:i<m)(hm:m≤3):(([a,b,c].take m).take (i+1)).foldl f x=f ((([a,b,c].take m).take i).foldl f x) ([a,b,c].getD i 0):=by
 obtain⟨hl,e⟩:=Ck (a:=a) (b:=b) (c:=c) h hm
 rw[qi hl,e]
theorem Dz{a b c:Int}{i m:Nat}(h:i<m)(hm:m≤3):([a,b,c].take m).take (i+1)=([a,b,c].take m).take i++[[a,b,c].getD i 0]:=by
 obtain⟨hl,e⟩:=Ck (a:=a) (b:=b) (c:=c) h hm
 rw[List.take_succ_eq_append_getElem hl,e]
theorem yz(B:World)(Fr:List HP)[cM Fr B](gl:GL B)(lf:LF B)(k0 g:Nat)(hk0:k0≤255)(hg:g≤255)(n0 n1 n2:Int)(hnb:∀ n∈[n0,n1,n2],0≤n∧n<18446744073709551616):
 ∀ w,Holds B Fr w→Calls Tryz.prog 12 [.agg #[.int .u8 k0,w64 n0,w64 n1,w64 n2,.int .u8 g]].toArray w (Ret B (fun v H'=>∃ t:CR,t.2.1.2.1=t.2.2.length∧crC t=(Ln.mk k0 [n0,n1,n2] g).c∧v= .tuple #[crV t,str (jb (Ln.mk k0 [n0,n1,n2] g).c),str (Ln.mk k0 [n0,n1,n2] g).t]∧H'=iV t::Fr) (fun _ _=>False)):=by
 refine ao func12 aa ntmps12 aa ?_
 obtain⟨k,hk⟩:∃ k,k=k0%18:=⟨_,rfl⟩
 have hk18:k<18:=by omega
 have hfk:=vj k hk18
 have hfm:=tW k hk18
 obtain⟨hp1,hp2⟩:=sY g
 obtain⟨hs1,hs2⟩:=sP g
 obtain⟨ht1,ht2⟩:=sC g
 obtain⟨bf,of_,capf,hlf1,hlf2⟩:=lf
 refine ac (ab (kPb (aY aa) aa fun b1=>(kPb (aD zeroValue32 aa) aa fun b2=>(kPa aa aa (kPa aa aa (ad (ac (ab (kPl BI isAgg5 aa aa aa aa (kPv (bK runUnderlying5 runUnderlying3 aa) aa (kPv (kE isAgg56 aa hlf1) aa ?_)))))))))))
 refine kPv (bB aa runUnderlying56 ⟨_,rfl⟩ rfl) aa (kPv (eM (c:=((k:Nat):Int)) aa aa (by decide) ((i8 18 (by omega)).trans (by omega))) aa (kPa aa aa (ad (an [5,4,3,2,1] rfl (ac (ab (kPm aa aa (kPv (aP aa (pP _ aa)) aa (kPb (aD zeroValue32 aa) aa fun b6=> ?_)))))))))
 refine kPs (ax (vs:=_) sizeOf32 aa aa aa (by first | rfl | exact dW (by assumption)) rfl) rfl ?_;refine ad ?_
 refine ac (ab (kPv (kE isAgg56 aa hlf1) aa (kPm aa aa (kPv (j0 (sz:=2) runUnderlying56 sizeOf55 aa aa (by omega) (by omega) aa) aa (kPv (aE (m:=_) wV aa aa) aa (kPv (k9 (i:=k) (j:=0) (c:=[str (fw k),i64 (fm k)]) (v:=str (fw k)) isAgg9 (SlN.arg (cap:=capf) hlf2) aa (by simp[hk18]) aa) aa (kPa aa aa (ad (an [7,6,5,4,3,2,1] rfl (ac (ab ?_)))))))))))
 refine kPb (se runUnderlying50 sizeOf9 zeroValue9 aa aa aa aa aa aa aa) aa fun b24=>(kPl rT isAgg5 aa aa aa aa (kPv (eM (c:=((g%3:Nat):Int)) aa aa (by decide) ((i8 3 (by omega)).trans (by omega))) aa (kPv (bT runUnderlying50 sizeOf9 aa aa (by omega) (by omega)) aa (kPv (bH (v:=str (sZ g)) isAgg9 (SlR.row (b:=b24) (n:=3) (cap:=3) (off:=0) (cs:=[str [],str [32],str [9,32]]) aa aa) aa (by rw[Int.toNat_natCast];exact hp1)) aa (kPm aa aa ?_)))))
 refine al aa (dT aa aa (by first | omega | (simp only[List.length_append,List.length_cons,List.length_nil];omega))) .free aa aa ?_
 refine kPa aa aa (ad (an [8,7,6,5,4,3,2,1] rfl (ac (ac (aN (fun w hh=>ew (T:=25) (enc:=w64) hh) (ab (kPv (aE (m:=_) BH aa aa) aa (kPv (kE isAgg56 aa hlf1) aa (kPm aa aa (kPv (j0 (sz:=2) runUnderlying56 sizeOf55 aa aa (by omega) (by omega) aa) aa (kPv (aE (m:=_) wU aa aa) aa ?_)))))))))))
 refine kPv (k9 (i:=k) (j:=1) (c:=[str (fw k),i64 (fm k)]) (v:=i64 (fm k)) isAgg3 (SlN.arg (cap:=capf) hlf2) aa (by simp[hk18]) aa) aa (kPv (k7 runUnderlying26 sizeOf25 aa .no (.yesi aa aa) (Nat.zero_le _) hfm (.inr aa) aa) aa (kPv (bB aa runUnderlying30 ⟨_,rfl⟩ rfl) aa (kPm aa aa (ad (an [40,39,38,8,7,6,4,3,2,1] rfl (aF (cA (ι:=Nat×List UInt8×List UInt8×List Int×Value) [39,38,6,4,3,2,1] (fun (i,pl,tx,ns,nv)=>(i≤fm k)∧(pl=((([n0,n1,n2].take (fm k)).take i).foldl (fun l n=>l++([32]++Lib.decDigits n.toNat)) (fw k)))∧(tx=((([n0,n1,n2].take (fm k)).take i).foldl (fun l n=>l++(oB g++Lib.decDigits n.toNat)) (sZ g++fw k)))∧(ns=([n0,n1,n2].take (fm k)).take i)∧(aM nv=true)∧(ns.length=i)∧(pl.length≤7+21*i)∧(tx.length≤9+22*i)) (fun (i,pl,tx,ns,nv)=>[(40,i64 i),(7,str pl),(8,str tx)]) (fun (i,pl,tx,ns,nv)=>cP 0 (nv,ns)::row b6 [i64 k,nv] 32::row b24 [str [],str [32],str [9,32]] 9::row b1 [.int .u8 k0,w64 n0,w64 n1,w64 n2,.int .u8 g] 28::row b2 [i64 0,.slice none 0 0] 32::Fr) (fun (i,pl,tx,ns,nv)=>fm k - i) (0,fw k,sZ g++fw k,[],.slice none 0 0) (⟨Nat.zero_le _,rfl,rfl,rfl,rfl,rfl,by omega,by simp only[List.length_append];omega⟩) (fun a w st=>st.to (aC aa) (fun hh=>(hh.pk [0,1,0,1]))) ?_)))))))
 rintro⟨i,pl,tx,ns,nv⟩ ⟨hi0,hpl,htx,hns,hnv,hnl,hpll,htxl⟩
 try simp only at hi0 hpl htx hns hnv hnl hpll htxl ⊢
 refine bY (σ':=[(40,i64 i),(7,str pl),(8,str tx),(39,_),(38,_),(6,_),(4,_),(3,_),(2,_),(1,_)]) (aC aa) (ac (ab (kPv (am aa aa aa) aa (ad (ac ?_)))))
 refine aZ aa (fun h41=> ?_) (fun h41=> ?_)
 ·have hi:i<fm k:=by simp at h41;omega
  obtain⟨hn1,hni⟩:=CT (a:=n0) (b:=n1) (c:=n2) i (by omega)
  have hdl:=mU ([n0,n1,n2].getD i 0).toNat (by have:=hnb _ hni;omega)
  refine aq (ac (aF (ac (ab ?_))))
  refine al aa ((bT runUnderlying30 sizeOf25 aa aa (by omega) (by omega)).eq (show _=Value.pointer (some ⟨b1,1+i,none⟩) by first | rfl | (simp;done))) .free aa aa ?_
  refine kPv (ai (k:=1+i) (v:=w64 ([n0,n1,n2].getD i 0)) isAgg25 aa (yy i (by omega))) aa (kPa aa aa (ad (ac (ab (kPl gH isAgg30 aa aa aa aa (kPm aa aa (kPb (fB runUnderlying30 sizeOf25 zeroValue25 aa aa aa) aa fun b47=>(aS [1,0] (cI aa (dD aa aa runUnderlying30 runUnderlying30 ⟨_,rfl⟩ sizeOf25 zeroValue25 aa (fun _=>rfl) gY aa aa (by omega)) .free aa aa ?_)))))))))
  rintro nv9 _ ⟨hnv9,rfl⟩
  refine kPv (aE (m:=_) gH aa aa) aa ?_
  refine kPs (aO sizeOf30 aa aa (by first | rfl | assumption) rfl) rfl ?_;refine ad ?_;refine an [10,40,7,8,39,38,6,4,3,2,1] rfl ?_;refine ac ?_;refine ab ?_;refine kPm aa aa ?_;refine kPm aa aa ?_;refine ay aa (ar call21 aa) (kY B _ gl (hnb _ hni)) .free aa aa ?_
  refine al aa (dT aa aa (by first | omega | (simp only[List.length_append,List.length_cons,List.length_nil];omega))) .free aa aa ?_
  refine al aa (dT aa aa (by first | omega | (simp only[List.length_append,List.length_cons,List.length_nil];omega))) .free aa aa ?_
  refine kPa aa aa (ad ?_)
  refine iH (.br [0,2,3,4,5,8] 1 (.fin [6,7,9,10,11,12]) 9 (.br1 [] 1 (.fin [6,7,10,11,12]))) [1,9] [0,2,3,4,5,6,7,8] [1,9] [row b1 [.int .u8 k0,w64 n0,w64 n1,w64 n2,.int .u8 g] 28] [7,40,39,38,6,4,3,2,1] (G:=Nat) (fun b56=>[(8,str (tx++(oB g++Lib.decDigits ([n0,n1,n2].getD i 0).toNat)))]) (fun b56=>cP 0 (nv9,ns++[([n0,n1,n2].getD i 0)])::row b6 [i64 k,nv9] 32::row b24 [str [],str [32],str [9,32]] 9::row b1 [.int .u8 k0,w64 n0,w64 n1,w64 n2,.int .u8 g] 28::row b2 [i64 0,.slice none 0 0] 32::Fr) Tryz.mixed (by kernel_rfl) ?_ ?_
  ·skip
   refine sG (ak aa aa aa (aj aa) .free aa (ak aa aa aa (aE (m:=_) rT aa aa) .free aa (ak aa aa aa (ai isAgg5 aa aa) .free aa (ak aa aa aa (jR (c:=((g / 3:Nat):Int)) aa aa (by decide) (by rw[Int.tdiv_eq_ediv_of_nonneg (by omega)];exact(xg (by omega)).trans (by omega))) .free aa (ak aa aa aa (eM (c:=((g / 3%3:Nat):Int)) aa aa (by decide) ((i8 3 (by omega)).trans (by omega))) .free aa (ak aa aa aa (aj aa) .free aa (cx ?_)))))))
   refine ng aa aa ?_ ?_
   ·skip
    refine kPb (se runUnderlying50 sizeOf9 zeroValue9 aa aa aa aa aa aa aa) aa fun b56=>(ad (rd (row b56 [str [32],str [32,32],str [9]] 9) (gZ (ak aa aa aa (bT runUnderlying50 sizeOf9 aa aa (by omega) (by omega)) .free aa (ak aa aa aa (bH (v:=str (oB g)) isAgg9 (SlR.row (b:=b56) (n:=3) (cap:=3) (off:=0) (cs:=[str [32],str [32,32],str [9]]) aa aa) aa (by rw[Int.toNat_natCast];exact hs1)) .free aa (aT aa aa (ay aa (ar call21 aa) (kY B _ gl (hnb _ hni)) .free aa aa ?_)))))))
    refine ad (cN ?_)
    refine aQ aa aa aa (dT aa aa (by first | omega | (simp only[List.length_append,List.length_cons,List.length_nil];omega))) .free aa ?_
    refine aQ aa aa aa (dT aa aa (by first | omega | (simp only[List.length_append,List.length_cons,List.length_nil];omega))) .free aa ?_
    refine aQ aa aa aa (bu aa) .free aa (cx ?_)
    exact fun a w st_=>⟨b56,st_.to (aC aa) (fun hh=>(hh.dp [0]))⟩
   ·skip
    refine ay aa (ar call21 aa) (kY B _ gl (hnb _ hni)) .free aa aa ?_
    refine ad (rb (Ca (cx (B9 aa ?_))))
    ·skip
     refine kPb (se runUnderlying50 sizeOf9 zeroValue9 aa aa aa aa aa aa aa) aa fun b56=>(ad (rd (row b56 [str [32],str [32,32],str [9]] 9) (gZ (ak aa aa aa (bT runUnderlying50 sizeOf9 aa aa (by omega) (by omega)) .free aa (ak aa aa aa (bH (v:=str (oB g)) isAgg9 (SlR.row (b:=b56) (n:=3) (cap:=3) (off:=0) (cs:=[str [32],str [32,32],str [9]]) aa aa) aa (by rw[Int.toNat_natCast];exact hs1)) .free aa ?_)))))
     refine aQ aa aa aa (dT aa aa (by first | omega | (simp only[List.length_append,List.length_cons,List.length_nil];omega))) .free aa ?_
     refine aQ aa aa aa (dT aa aa (by first | omega | (simp only[List.length_append,List.length_cons,List.length_nil];omega))) .free aa ?_
     refine aQ aa aa aa (bu aa) .free aa (cx ?_)
     exact fun a w st_=>⟨b56,st_.to (aC aa) (fun hh=>(hh.dp [0]))⟩
  intro b56
  refine bY (σ':=[(8,str (tx++(oB g++Lib.decDigits ([n0,n1,n2].getD i 0).toNat))),(7,_),(40,_),(39,_),(38,_),(6,_),(4,_),(3,_),(2,_),(1,_)]) (aC aa) (ab (kPv (aL aa aa) aa (kPm aa aa (ad ?_))))
  exact fun a w st_=>⟨(i+1,pl++([32]++Lib.decDigits ([n0,n1,n2].getD i 0).toNat),tx++(oB g++Lib.decDigits ([n0,n1,n2].getD i 0).toNat),ns++[([n0,n1,n2].getD i 0)],nv9),⟨by first | omega | (simp only;omega),by rw[wr hi hfm,hpl],by rw[wr hi hfm,htx],by rw[Dz hi hfm,hns],hnv9,by simp[hnl],by simp only[List.length_append,List.length_cons,List.length_nil];omega,by simp only[List.length_append,List.length_cons,List.length_nil];omega⟩,by first | omega | (simp only;omega),st_.to (aC aa) (fun hh=>hh)⟩
 ·have hi:i=fm k:=by simp at h41;omega
  have hns2:ns=([n0,n1,n2].take (fm k)):=by rw[hns,hi,List.take_take,Nat.min_self]
  have hc:(Ln.mk k0 [n0,n1,n2] g).c=((k:Int),ns):=by rw[hns2];subst hk;rfl
  have hp:jb (Ln.mk k0 [n0,n1,n2] g).c=pl:=by rw[Ln.line,hpl,hi,List.take_take,Nat.min_self];subst hk;rfl
  have ht:(Ln.mk k0 [n0,n1,n2] g).t=tx++ra g:=by unfold Ln.t Ln.m;rw[htx,hi,List.take_take,Nat.min_self];subst hk;rfl
  refine bC (ac (pq fun q5 c5 hq5=> ?_))
  subst hq5
  refine iH (.br [0,1,2,4,5,6,7] 3 (.fin [8,9,10,11,12,13]) 11 (.br1 [12] 3 (.fin [8,9,10,13]))) [3,11] [0,1,2,4,5,6,7,8,9,10,12] [3,11] [row b1 [.int .u8 k0,w64 n0,w64 n1,w64 n2,.int .u8 g] 28,row b6 [i64 k,.slice q5 ns.length c5] 32] [2] (G:=Nat) (fun b71=>[(3,str pl),(4,str (tx++ra g))]) (fun b71=>cP 0 (.slice q5 ns.length c5,ns)::row b2 [i64 k,.slice q5 ns.length c5] 32::Fr) Tryz.mixed (by kernel_rfl) ?_ ?_
  ·skip
   refine sG (ak aa aa aa (ah isAgg32 sizeOf32 aa aa) .free aa ?_)
   refine ak aa aa aa (aj aa) .free aa (ak aa aa aa (aj aa) .free aa (ak aa aa aa (aE (m:=_) rT aa aa) .free aa (ak aa aa aa (ai isAgg5 aa aa) .free aa (ak aa aa aa (jR (c:=((g / 9:Nat):Int)) aa aa (by decide) (by rw[Int.tdiv_eq_ediv_of_nonneg (by omega)];exact(xg (by omega)).trans (by omega))) .free aa (ak aa aa aa (eM (c:=((g / 9%4:Nat):Int)) aa aa (by decide) ((i8 4 (by omega)).trans (by omega))) .free aa (cx ?_))))))
   refine ng aa aa ?_ ?_
   ·skip
    refine kPb (Az runUnderlying50 sizeOf9 zeroValue9 aa aa aa aa aa aa aa aa aa) aa fun b71=>(ad (rd (row b71 [str [],str [32],str [32,35,32,97,32,114,101,109,97,114,107],str [35]] 9) (gZ (ak aa aa aa (bT runUnderlying50 sizeOf9 aa aa (by omega) (by omega)) .free aa (ak aa aa aa (bH (v:=str (ra g)) isAgg9 (SlR.row (b:=b71) (n:=4) (cap:=4) (off:=0) (cs:=[str [],str [32],str [32,35,32,97,32,114,101,109,97,114,107],str [35]]) aa aa) aa (by rw[Int.toNat_natCast];exact ht1)) .free aa ?_)))))
    refine ak aa aa aa (dT aa aa (by first | omega | (simp only[List.length_append,List.length_cons,List.length_nil];omega))) .free aa ?_
    refine aT aa aa (kPs (ax (vs:=[i64 k,.slice q5 ns.length c5]) sizeOf32 aa aa aa aa aa) aa (ad (cN (ak aa aa aa (bu aa) .free aa (aQ aa aa aa (bu aa) .free aa (cx ?_))))))
    exact fun a w st_=>⟨b71,st_.to (aC aa) (fun hh=>(hh.dp [0,1,1,1]))⟩
   ·skip
    refine kPs (ax (vs:=[i64 k,.slice q5 ns.length c5]) sizeOf32 aa aa aa aa aa) aa (ad (rb (Ca (ak aa aa aa (bu aa) .free aa (cx (B9 aa ?_))))))
    ·skip
     refine kPb (Az runUnderlying50 sizeOf9 zeroValue9 aa aa aa aa aa aa aa aa aa) aa fun b71=>(ad (rd (row b71 [str [],str [32],str [32,35,32,97,32,114,101,109,97,114,107],str [35]] 9) (gZ (ak aa aa aa (bT runUnderlying50 sizeOf9 aa aa (by omega) (by omega)) .free aa (ak aa aa aa (bH (v:=str (ra g)) isAgg9 (SlR.row (b:=b71) (n:=4) (cap:=4) (off:=0) (cs:=[str [],str [32],str [32,35,32,97,32,114,101,109,97,114,107],str [35]]) aa aa) aa (by rw[Int.toNat_natCast];exact ht1)) .free aa ?_)))))
     refine ak aa aa aa (dT aa aa (by first | omega | (simp only[List.length_append,List.length_cons,List.length_nil];omega))) .free aa ?_
     refine aQ aa aa aa (bu aa) .free aa (cx ?_)
     exact fun a w st_=>⟨b71,st_.to (aC aa) (fun hh=>(hh.dp [0,1,1,1]))⟩
  intro b71
  refine bY (σ':=[(3,str pl),(4,str (tx++ra g)),(2,_)]) (aC aa) (az ?_)
  exact kc results12 (.cellA aa isAgg32 sizeOf32 aa aa) (.tmp aa) (.tmp aa) (fun w hh=>⟨_,⟨((k:Int),(q5,ns.length,c5),ns),rfl,hc.symm,by rw[hp,ht];rfl,rfl⟩,(hh.dp [1])⟩)
def Ln.row(x:Ln):List Value:= .int .u8 x.k::(x.n.map w64++[.int .u8 x.g])
theorem Ln.row_len{x:Ln}(h:LnW x):x.row.length=5:=by
 have:=h.n
 unfold Ln.row
 simp only[List.length_cons,List.length_append,List.length_map,List.length_nil]
 omega
theorem Bg(B:World)(Fr:List HP)[cM Fr B](gl:GL B)(lf:LF B)(x:Ln)(hx:LnW x):
 ∀ w,Holds B Fr w→Calls Tryz.prog 12 [.agg x.row.toArray].toArray w (Ret B (fun v H'=>∃ t:CR,t.2.1.2.1=t.2.2.length∧crC t=x.c∧v= .tuple #[crV t,str (jb x.c),str x.t]∧H'=iV t::Fr) (fun _ _=>False)):=by
 obtain⟨k,n,g⟩:=x
 match n,hx.n with
 | [a,b,c],_=>exact yz B Fr gl lf k g hx.k hx.g a b c hx.b
theorem Ln.c_w{x:Ln}(hx:LnW x):uF x.c:=by
 obtain⟨k,n,g⟩:=x
 have hn:=hx.n
 have hf:=tW (k%18) (Nat.mod_lt _ (by decide))
 refine⟨⟨by show 0≤((k%18:Nat):Int);omega,by show((k%18:Nat):Int)<18;omega⟩,?_,fun m hm=>hx.b m (List.mem_of_mem_take hm)⟩
 show(n.take (fm (k%18))).length=fm ((k%18:Nat):Int).toNat
 rw[List.length_take,Int.toNat_natCast]
 simp only at hn
 omega
set_option maxRecDepth 100000 in
theorem jq{H:Type}{enc:TypeId×Value→H}{W:World}{base:Nat}{held:Bool}{a:Option Addr}{len cap:Nat}{x:DataW H×List MemPlace}
 (h:∃ fuel,DataW.trod enc Tryz.prog W base (fun _=>true) held fuel 22 (Value.slice a len cap).cells.toList=some x):∃ f:Nat→Ln,len≤9223372036854775807∧(∀ i,i<len→LnW (f i))∧lM W a len 5 (fun i=>(f i).row):=by
 obtain⟨fuel,hf⟩:=h
 rcases Go.Deep.open_slice underlying22 hf with ⟨hcs,_⟩ | ⟨y,l,c,m,n,D,Pl,hcs,_,hl,hm,hmm,_,hx⟩
 ·simp[Value.cells] at hcs
  obtain⟨rfl,rfl,rfl⟩:=hcs
  exact⟨fun _=>⟨0,[],0⟩,by omega,fun i hi=>by omega,⟨fun i hi=>by omega⟩⟩
 ·simp[Value.cells] at hcs
  obtain⟨rfl,rfl,rfl⟩:=hcs
  unfold maxLen at hm
  simp only[if_true] at hmm
  have hc2:Tryz.prog.cellsOf 28=5:=by kernel_rfl
  have c1:Tryz.prog.cellsOf 25=1:=by kernel_rfl
  have each:∀ i,i<len→∃ x:Ln,LnW x∧∀ j,j<5→W.cell? ((y.add (i*5)).add j)=x.row[j]? :=fun i hi=>by
   obtain⟨cs,h1,h2⟩:=hx i (by omega)
   rw[hc2] at h1
   obtain⟨y0,y1,y2,n,_,hlen,g0,g1,g2⟩:=Go.Deep.trod_struct3 underlying28 h2
   rw[hc2] at hlen
   match cs,hlen with
   | [u,p,q,r,v],_=>
     obtain⟨k,ek,_,wk⟩:=DataW.trod_int underlying5 g0
     obtain⟨g,eg,_,wg⟩:=DataW.trod_int underlying5 g2
     have ek:[u]=[Value.int .u8 k]:=ek
     have eg:[v]=[Value.int .u8 g]:=eg
     cases ek;cases eg
     have bk:=bounds_u8 wk
     have bg:=bounds_u8 wg
     obtain⟨k,rfl⟩:=Int.eq_ofNat_of_zero_le bk.1
     obtain⟨g,rfl⟩:=Int.eq_ofNat_of_zero_le bg.1
     have g1:DataW.trod enc Tryz.prog W base (fun _=>true) held n 26 [p,q,r]=some y1:=g1
     obtain⟨xs,m',_,_,_,hxl,hel⟩:=DataW.trod_array underlying26 g1
     have one:∀ i,(hi:i<3)→∃ a,[p,q,r][i]? =some (w64 a)∧0≤a∧a<18446744073709551616:=fun i hi=>by
      have h1:=hel i hi
      rw[c1,List.getElem?_eq_getElem (by omega),Nat.mul_one] at h1
      obtain⟨a,e,_,wa⟩:=DataW.trod_int underlying25 h1
      have e2:(([p,q,r].drop i).take 1)[0]? =some (w64 a):=congrArg (fun l=>l[0]?) e
      have hw:=bounds_u64 wa
      exact⟨a,by simpa using e2,by omega,by omega⟩
     obtain⟨a,ea,ha⟩:=one 0 (by decide)
     obtain⟨b,eb,hb⟩:=one 1 (by decide)
     obtain⟨c,ec,hc⟩:=one 2 (by decide)
     cases ea;cases eb;cases ec
     have hs:=World.cells?_some h1
     refine⟨⟨k,[a,b,c],g⟩,⟨by simp only;omega,rfl,fun n hn=> ?_,by simp only;omega⟩,fun j hj=> ?_⟩
     ·simp only[List.mem_cons,List.not_mem_nil,or_false] at hn
      rcases hn with rfl | rfl | rfl
      ·exact ha
      ·exact hb
      ·exact hc
     ·match j,hj with
      | 0,_=>exact hs.2.2 0 (by decide)
      | 1,_=>exact hs.2.2 1 (by decide)
      | 2,_=>exact hs.2.2 2 (by decide)
      | 3,_=>exact hs.2.2 3 (by decide)
      | 4,_=>exact hs.2.2 4 (by decide)
  obtain⟨b,o,s⟩:=y
  by_cases h0:len=0
  ·exact⟨fun _=>⟨0,[],0⟩,by omega,fun i hi=>by omega,⟨fun i hi=>by omega⟩⟩
  have hs:s=none:=by
   obtain⟨p,_,h1⟩:=each 0 (by omega)
   have h1:W.cell? ⟨b,o,s⟩=some _:=h1 0 (by decide)
   unfold World.cell? at h1
   split at h1
   ·cases s with
    | none=>rfl
    | some q=>simp at h1
   ·cases h1
  subst hs
  have each:∀ i,i<len→∃ x:Ln,LnW x∧∀ j,j<5→W.cell? ⟨b,o+(i*5+j),none⟩=x.row[j]? :=fun i hi=>by
   obtain⟨x,h1,h2⟩:=each i hi
   exact⟨x,h1,fun j hj=>by rw[←h2 j hj,fC,fC,Nat.add_assoc]⟩
  refine⟨fun i=>if hi:i<len then (each i hi).choose else ⟨0,[],0⟩,by omega,fun i hi=> ?_,⟨fun i hi=>⟨b,o,rfl,?_,fun j hj=> ?_⟩⟩⟩
  ·simp only[dif_pos hi]
   exact(each i hi).choose_spec.1
  ·simp only[dif_pos hi]
   exact Ln.row_len (each i hi).choose_spec.1
  ·have h2:=(each i hi).choose_spec.2 j hj
   simp only[dif_pos hi]
   exact h2
theorem wQ{α:Type}{f:List UInt8→α→List UInt8}{m:Nat}:∀ (l:List α) (a:List UInt8),(∀ a n,n∈l→(f a n).length≤a.length+m)→(l.foldl f a).length≤a.length+m*l.length
 | [],a,_=>by simp
 | n::t,a,h=>by
   have h1:=wQ (m:=m) t (f a n) fun b k hk=>h b k (List.mem_cons_of_mem _ hk)
   have h2:=h a n (List.mem_cons_self ..)
   simp only[List.foldl_cons,List.length_cons,Nat.mul_succ]
   omega
theorem Ln.t_len{x:Ln}(hx:LnW x):x.t.length≤120:=by
 have hc:=Ln.c_w hx
 have h3:=hc.len
 have hp:=(sY x.g).2
 have hs:=(sP x.g).2
 have ht:=(sC x.g).2
 have hf:=vj (x.k%18) (Nat.mod_lt _ (by decide))
 have h1:=wQ (m:=22) (f:=fun l n=>l++(oB x.g++Lib.decDigits n.toNat)) x.c.2 (sZ x.g++fw (x.k%18)) fun a n hn=>by
  have hb:=hc.b n hn
  have hd:=mU n.toNat (by omega)
  simp only[List.length_append]
  omega
 unfold Ln.t
 simp only[List.length_append] at h1 ⊢
 unfold Ln.m
 omega
theorem Ln.lit{x:Ln}(hx:LnW x):∃ k a b c g,x=⟨k,[a,b,c],g⟩:=by
 obtain⟨k,n,g⟩:=x
 match n,hx.n with
 | [a,b,c],_=>exact⟨k,a,b,c,g,rfl⟩
theorem zo(B:World)(Fr:List HP)[cM Fr B](gl:GL B)(lf:LF B)(x:Ln)(hx:LnW x){k g:Nat}{a b c:Int}(e:x=⟨k,[a,b,c],g⟩):
 ∀ w,Holds B Fr w→Calls Tryz.prog 12 [.agg #[.int .u8 k,w64 a,w64 b,w64 c,.int .u8 g]].toArray w (Ret B (fun v H'=>∃ t:CR,t.2.1.2.1=t.2.2.length∧crC t=x.c∧v= .tuple #[crV t,str (jb x.c),str x.t]∧H'=iV t::Fr) (fun _ _=>False)):=by
 subst e
 exact Bg B Fr gl lf _ hx
theorem A4{n:Nat}{f:Nat→Ln}{i k g:Nat}{a b c:Int}(hi:i<n)(e:f i=⟨k,[a,b,c],g⟩):((List.range n).map fun i=>(f i).row)[i]? =some [.int .u8 k,w64 a,w64 b,w64 c,.int .u8 g]:=by
 rw[List.getElem?_map,List.getElem?_range hi,Option.map_some,e];rfl
theorem AS(z:List UInt8)(j:Nat):(z.take j).length≤z.length:=by rw[List.length_take];omega
theorem BM(z:List UInt8)(j:Nat):(z.drop j).length≤z.length:=by rw[List.length_drop];omega
namespace scriptSpoilt
theorem DQ:(Rows.scriptSpoiltRow.inPlace==Tryz.pinned.checked.prog.inPlace 7)=true:=by kernel_rfl
theorem DP:(Rows.scriptSpoiltRow.unfollowed==Tryz.pinned.checked.prog.unfollowed 7)=true:=by kernel_rfl
theorem DO:(Rows.scriptSpoiltRow.recurses==Tryz.pinned.checked.prog.recurses 7)=true:=by kernel_rfl
theorem DN:(Rows.scriptSpoiltRow.named==Tryz.pinned.checked.prog.varsNamed 7)=true:=by kernel_rfl
theorem DM:joinedFacts Tryz.pinned.checked.prog 7 Tryz.f7 Rows.scriptSpoiltSpec Rows.scriptSpoiltRow=true:=by
 unfold joinedFacts
 rw[DQ,DP,DO,DN]
 kernel_rfl
theorem named:Tryz.pinned.checked.prog.funcNamed Rows.scriptSpoiltRow.func=some 7:=by kernel_rfl
theorem D7:Tryz.f7.isInstance Tryz.pinned.checked.prog Rows.scriptSpoiltRow.origin Rows.scriptSpoiltRow.targs:=of_decide_eq_true (by kernel_rfl)
theorem wrap:Tryz.f7.isWrapper Tryz.pinned.checked.prog Rows.scriptSpoiltRow.wrapper Rows.scriptSpoiltRow.mainSum:=by unfold Func.isWrapper;first | (rw[if_pos (by decide+kernel)];kernel_rfl) | (rw[if_neg (by decide+kernel)];exact⟨rfl,rfl⟩)
end scriptSpoilt
end Go.Proofs.YtoakdoeajpjgkaaGreatDoor
