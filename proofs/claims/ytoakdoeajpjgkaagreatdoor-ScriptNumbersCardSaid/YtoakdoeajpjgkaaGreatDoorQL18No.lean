/- Part of a law's texts. Conditions: none. -/
import Derived.Test.YtoakdoeajpjgkaaGreatDoorQL18Nn
import Derived.LaidLaws
import Derived.Lib.LaidTab
import Derived.Stop.LaidErr
import Derived.Shelf.Vars
import Derived.MakeChecks
import Derived.ChangeSame
import Derived.Deep.Slices
import Derived.SizedLaws
import Derived.Stop.Joined
import Derived.Lay
import Derived.JoinedOf
open Go.Proofs.Tryz
set_option linter.all false
namespace Go.Proofs.YtoakdoeajpjgkaaGreatDoor
open Go
theorem j2{L:bP}{s:Dev}(h:L.n=0):L.undo s= .ok L s:=by
 unfold bP.undo
 rw[show L.n.toNat=0 by omega]
 simp[kT,bP.truncate,h,Out.then]
theorem yJ{c:Cfg}(hc:bA c){s:Dev}(hn:(s.n:Int)=c.words)(h0:s.load 0=gy)(h1:s.load 1=c.log)(h2:s.load 2=c.roots)(h3:s.load 3=c.space):s.readC=(c,0):=by
 have l1:=hc.l1;have l2:=hc.l2;have r1:=hc.r1;have r2:=hc.r2;have s1:=hc.s1;have s2:=hc.s2
 have e:∀ x:Int,0≤x∧x≤4096→IntKind.i64.wrap x=x:=fun x hx=>fN (by omega)
 have e1:cm s 0=c.log:=by unfold cm;rw[show(1+((0:Nat):Int))=1 from rfl,h1];exact e _ (by omega)
 have e2:cm s 1=c.roots:=by unfold cm;rw[show(1+((1:Nat):Int))=2 from rfl,h2];exact e _ (by omega)
 have e3:cm s 2=c.space:=by unfold cm;rw[show(1+((2:Nat):Int))=3 from rfl,h3];exact e _ (by omega)
 have hcc:(⟨c.log,c.roots,c.space⟩:Cfg)=c:=rfl
 unfold Dev.readC
 rw[if_neg (by rw[h0];simp),if_neg (by omega),e1,e2,e3,hcc,if_neg (by rintro(h | h);exact h hc;exact h hn)]
theorem oJ{s t:Dev}(h:t.load=s.load)(c:Cfg)(e:Int):∀ f n,gM t c e f n=gM s c e f n
 | 0,_=>rfl
 | f+1,n=>by unfold gM;rw[h,oJ h c e f]
theorem uL{s t:Dev}(h:t.load=s.load)(d:Nat)(c:Cfg):bY d c t=bY d c s:=by unfold bY;rw[h,oJ h]
theorem wM(s:Dev)(pa:Nat):(cpD s pa).load=s.load:=by
 funext j
 unfold Dev.load Dev.has
 show(if (decide (0≤j)&&decide (j<(s.n:Int)))=true then (tab s.n s.now).getD j.toNat 0 else 0)=_
 split
 ·rename_i h
  simp only[Bool.and_eq_true,decide_eq_true_eq] at h
  have e:tab s.n s.now=(List.range s.n).map s.now:=rfl
  rw[e,List.getD_eq_getElem?_getD]
  simp[show j.toNat<s.n by omega]
 ·rfl
structure OkD(c:Cfg)(N:Nat)(s:Dev)(e:Int)(a u:Int)(L:List Int):Prop where
 n:s.n=N
 hN:(N:Int)=c.words
 uu:U64 s
 rc:s.readC=(c,0)
 lg:∀ d,bY d c s=⟨d,c,e,0⟩
 hm:HM c s.load a u L
theorem OkD.open_{c:Cfg}(hc:bA c){N:Nat}{s:Dev}{e a u:Int}{L:List Int}(h:OkD c N s e a u L){bd:Nat}{x:Int}(hx:sR bd s x):x=0:=by
 have e0:s.readC.2=0:=by rw[h.rc]
 have e1:s.readC.1=c:=by rw[h.rc]
 rcases hx with ⟨h1,_⟩ | ⟨_,h1,_⟩ | ⟨_,_,bc,pa,L1,t1,h2,h3⟩
 ·exact absurd e0 h1
 ·rw[e1,h.lg] at h1
  exact absurd h1 (show ¬ (0:Int)≤ -1 by decide)
 ·rw[e1,uL (wM s pa),h.lg,j2 rfl] at h2
  cases h2
  rw[h3,e1]
  have hm:HM c (cpD s pa).load a u L:=by rw[wM];exact h.hm
  exact pd hc (BY h.uu pa) hm.block hm.heap
theorem OkD.undo{c:Cfg}{N:Nat}{s:Dev}{e a u:Int}{L:List Int}(h:OkD c N s e a u L){bd:Nat}{L':bP}{s':Dev}(hx:(bY bd s.readC.1 s).undo s= .ok L' s'):s'=s:=by
 rw[show s.readC.1=c by rw[h.rc],h.lg,j2 rfl] at hx
 cases hx;rfl
theorem OkD.noff{c:Cfg}{N:Nat}{s:Dev}{e a u:Int}{L:List Int}(h:OkD c N s e a u L){bd:Nat}{s':Dev}(hx:(bY bd s.readC.1 s).undo s= .off s'):False:=by
 rw[show s.readC.1=c by rw[h.rc],h.lg,j2 rfl] at hx
 cases hx
structure HC(kp:Prop)(c:Cfg)(N bd:Nat)(h:HpS)(s:Dev)(a u:Int)(L:List Int):Prop where
 hbd:h.bd=bd
 hcc:h.c=c
 ho:h.o=false
 sk:SK c N bd h.S s
 hm:HM c s.load a u L
 rc:s.readC=(c,0)
 hw:dZ h s
 hkp:kp→s.kept=s.now
theorem A3{c:Cfg}(hc:bA c){N:Nat}{s:Dev}{e a u:Int}{L:List Int}(h:OkD c N s e a u L)(hs:kG s)(he:0≤e∧e<4294967296)(hsh:s.now 8=e∧s.now 16≠gt e 0)(bd:Nat){kp:Prop}(hk:kp→s.kept=s.now):HC kp c N bd (iP bd c s) s a u L:=by
 have hA:=jm hc
 have hN:=h.hN
 have hlog:0≤c.log:=by have:=hc.l1;have:=hc.r1;omega
 have hlw:dF ⟨bd,c,e,0⟩:=⟨hc,he.1,he.2,Int.le_refl _,hlog⟩
 have hS:(iP bd c s).S=⟨⟨bd,c,e,0⟩,0,0,[],[]⟩:=by unfold iP;rw[h.lg]
 have hsk:SK c N bd (iP bd c s).S s:=by
  rw[hS]
  exact⟨hs,h.uu,h.n,h.hN,rfl,hlw,rfl,rfl,hsh⟩
 refine⟨rfl,rfl,rfl,hsk,h.hm,h.rc,⟨hc,hsk.secK hc,fun x=>(by cases x),h.uu,⟨Int.le_refl _,by show(0:Int)≤1000000000;decide⟩,Nat.zero_le _,fun p hp=>(by cases hp),fun X hX=>(by cases hX)⟩,hk⟩
theorem Fmt.okd{c:Cfg}(hc:bA c){N:Nat}{s:Dev}(h:Fmt c N s)(hN:(N:Int)=c.words)(hu:U64 s):OkD c N s 1 0 0 []:=by
 have hA:=jm hc
 have hld:∀ k:Nat,k<24→s.load k=s.now k:=fun k hk=>ke rfl (by rw[h.n];omega)
 have hF:=CF hc hN h hu
 refine⟨h.n,hN,hu,yJ hc (by rw[h.n];exact hN) ?_ ?_ ?_ ?_,h.log,⟨hF.act,by omega,hF.used,hF.u0,hF.tile,hF.names,hF.roots⟩⟩
 ·rw[show(0:Int)=((0:Nat):Int) from rfl,hld 0 (by omega)];exact h.st.magic
 ·rw[show(1:Int)=((1:Nat):Int) from rfl,hld 1 (by omega)];exact h.st.cfg.1
 ·rw[show(2:Int)=((2:Nat):Int) from rfl,hld 2 (by omega)];exact h.st.cfg.2.1
 ·rw[show(3:Int)=((3:Nat):Int) from rfl,hld 3 (by omega)];exact h.st.cfg.2.2
theorem Fmt.hc{c:Cfg}(hc:bA c){N:Nat}{s:Dev}(h:Fmt c N s)(hN:(N:Int)=c.words)(hu:U64 s)(bd:Nat):HC True c N bd (iP bd c s) s 0 0 []:=
 A3 hc (h.okd hc hN hu) ⟨h.lim,h.calm.q⟩ ⟨by decide,by decide⟩ ⟨h.ep.1,by rw[h.ep.2];decide⟩ bd fun _=>h.calm.kept
structure K8(s s':Dev):Prop where
 n:s'.n=s.n
 now:∀ x:Nat,x<8→s'.now x=s.now x
theorem K8.refl{s:Dev}:K8 s s:=⟨rfl,fun _ _=>rfl⟩
theorem K8.trans{s s' s'':Dev}(h:K8 s s')(g:K8 s' s''):K8 s s'':=⟨g.n.trans h.n,fun x hx=>(g.now x hx).trans (h.now x hx)⟩
theorem kg{s s':Dev}{i v a:Int}(hi:8≤i)(e:s.store i v= .ok a s'):K8 s s':=by
 unfold Dev.store at e
 split at e
 ·cases e;exact .refl
 ·split at e
  ·cases e
  ·cases e
   exact⟨rfl,fun x hx=>by show upd s.now i.toNat v x=_;unfold upd;rw[if_neg (by omega)]⟩
theorem tj{s s':Dev}{i a:Int}(e:s.flush i= .ok a s'):K8 s s':=by
 unfold Dev.flush at e
 split at e
 ·cases e;exact .refl
 ·split at e
  ·cases e
  ·cases e;exact⟨rfl,fun _ _=>rfl⟩
theorem tk{s s':Dev}{a:Unit}(e:s.fence= .ok a s'):K8 s s':=by
 unfold Dev.fence at e
 split at e
 ·cases e
 ·cases e;exact⟨rfl,fun _ _=>rfl⟩
theorem xu{L:bP}{s s':Dev}{i:Int}{r:Int×bP}(hL:dF L)(e:L.append s i= .ok r s'):K8 s s':=by
 unfold bP.append at e
 split at e
 ·cases e;exact .refl
 split at e
 ·cases e;exact .refl
 have hr:16≤L.c.record L.n:=by have:=hL.n1;simp only[Cfg.record];omega
 obtain⟨_,s1,e1,e⟩:=aI e
 obtain⟨_,s2,e2,e⟩:=aI e
 obtain⟨_,s3,e3,e⟩:=aI e
 obtain⟨_,s4,e4,e⟩:=aI e
 obtain⟨_,s5,e5,e⟩:=aI e
 obtain⟨_,s6,e6,e⟩:=aI e
 obtain⟨_,s7,e7,e⟩:=aI e
 cases e
 exact((((((kg (by omega) e1).trans (kg (by omega) e2)).trans (tj e3)).trans (tk e4)).trans (kg (by omega) e5)).trans (tj e6)).trans (tk e7)
theorem mI{S:bD}{s s':Dev}{i v:Int}{r:Int×bD}(hL:dF S.L)(e:S.store s i v= .ok r s'):K8 s s':=by
 have hA:=jm hL.c
 unfold bD.store at e
 split at e
 ·cases e;exact .refl
 rename_i hi
 split at e
 ·obtain⟨x,t,e1,e⟩:=aI e
  have h1:=xu hL e1
  split at e
  ·cases e;exact h1
  ·obtain⟨y,u,e2,e⟩:=aI e
   cases e;exact h1.trans (kg (by omega) e2)
 ·obtain⟨y,u,e2,e⟩:=aI e
  cases e;exact kg (by omega) e2
theorem wh{a h0:Int}:∀ (f:Nat) (i:Int) (S:bD) (s:Dev) (r:(Int×Int)×bD) (s':Dev),dF S.L→eT gh a h0 f i s S= .ok r s'→K8 s s'
 | 0,i,S,s,r,s',_,e=>by cases e;exact .refl
 | f+1,i,S,s,r,s',hL,e=>by
   unfold eT at e
   obtain⟨⟨x,S1⟩,s1,e1,e⟩:=aI e
   have h1:=mI hL e1
   split at e
   ·cases e;exact h1
   ·exact h1.trans (wh f _ _ _ _ _ (j4 hL e1) e)
theorem y6{c:Cfg}{w r:Int}{S:bD}{s:Dev}{x:(Int×Int)×bD}{s':Dev}(hL:dF S.L)(e:cN gh c w r s S= .ok x s'):K8 s s':=by
 unfold cN at e
 split at e
 ·cases e;exact .refl
 split at e
 ·cases e;exact .refl
 split at e
 ·cases e;exact .refl
 ·obtain⟨⟨y,S1⟩,s1,e1,e⟩:=aI e
  have h1:=mI hL e1
  split at e
  ·cases e;exact h1
  ·exact h1.trans (wh _ _ _ _ _ _ (j4 hL e1) e)
theorem K8.readC{c:Cfg}(hc:bA c){s s':Dev}(h:K8 s s')(hn:(s.n:Int)=c.words)(hr:s.readC=(c,0)):s'.readC=(c,0):=by
 have hA:=jm hc
 have hl:∀ k:Nat,k<8→s'.load k=s.load k:=fun k hk=>by
  rw[ke (k:=k) rfl (by rw[h.n];omega),ke (k:=k) rfl (by omega)];exact h.now k hk
 have hw:∀ k:Nat,k<3→cm s' k=cm s k:=fun k hk=>by
  have:=hl (1+k) (by omega)
  unfold cm
  rw[show(1+(k:Int))=((1+k:Nat):Int) by omega,this]
 have k0:s'.load 0=s.load 0:=hl 0 (by omega)
 have k1:s'.load 1=s.load 1:=hl 1 (by omega)
 have k2:s'.load 2=s.load 2:=hl 2 (by omega)
 have k3:s'.load 3=s.load 3:=hl 3 (by omega)
 rw[←hr]
 unfold Dev.readC
 rw[h.n,k0,k1,k2,k3,hw 0 (by omega),hw 1 (by omega),hw 2 (by omega)]
theorem B7{T:gG}{k:Int}(h1:0≤T.last∧T.last+1≤1000000000)(h2:T.at_.length+1≤800000)(h3:∀ p∈T.at_,0≤p.2∧p.2≤1000000)(hk:0≤k∧k≤1000000):
 (0≤(T.take k).2.last∧(T.take k).2.last≤1000000000)∧(T.take k).2.at_.length≤800000∧(∀ p∈(T.take k).2.at_,0≤p.2∧p.2≤1000000):=by
 unfold gG.take
 split
 ·exact⟨by simp only;omega,by simp only;omega,h3⟩
 split
 ·exact⟨by simp only;omega,by simp only;omega,h3⟩
 ·refine⟨by simp only;omega,?_,fun p hp=> ?_⟩
  ·have:=oS T.at_ (T.last+1) k
   simp only;omega
  ·rcases uM hp with e | e
   ·rw[e];exact hk
   ·exact h3 p e
structure HO(kp:Prop)(c:Cfg)(N bd:Nat)(old:Nat→Int)(js:List Nat)(h:HpS)(s:Dev)(a u u0:Int)(L:List Int):Prop where
 hbd:h.bd=bd
 hcc:h.c=c
 ho:h.o=true
 ss:In kp c N old js h.S s
 dd:h.S.L.d=bd
 hm:HM c s.load a u L
 rc:s.readC=(c,0)
 hw:dZ h s
 ff:h.S.ff=c.frm a+u0
 ft:h.S.ft=c.frm a+c.space
 ule:0≤u0∧u0≤u
theorem mJ{kp:Prop}{c:Cfg}(hc:bA c){N bd:Nat}{old:Nat→Int}{js:List Nat}{h:HpS}{s:Dev}(hcc:h.c=c)(hbd:h.bd=bd)(hi:In kp c N old js h.S s)(hd:h.S.L.d=bd)(hu:U64 s)(hx:h.X=none)(t1:0≤h.T.last∧h.T.last≤1000000000)(t2:h.T.at_.length≤800000)(t3:∀ p∈h.T.at_,0≤p.2∧p.2≤1000000):dZ h s:=by
 have hA:=jm hc
 have hN:=hi.hN
 exact⟨by rw[hcc];exact hc,⟨hi.logw,by rw[hi.n];omega,by rw[hbd];exact hd,by rw[hcc];exact hi.hc⟩,fun _=>⟨wj hi hc (by omega),xK hi hc (by omega)⟩,hu,t1,t2,t3,fun X hX=>by rw[hx] at hX;cases hX⟩
theorem HC.blk{kp:Prop}{c:Cfg}{N bd:Nat}{h:HpS}{s:Dev}{a u:Int}{L:List Int}(H:HC kp c N bd h s a u L):h.blk s=Ai c s.load a u:=by
 show(s.block h.c).1=_
 rw[H.hcc,H.hm.block]
theorem HO.blk{kp:Prop}{c:Cfg}{N bd:Nat}{old:Nat→Int}{js:List Nat}{h:HpS}{s:Dev}{a u u0:Int}{L:List Int}(H:HO kp c N bd old js h s a u u0 L):h.blk s=Ai c s.load a u:=by
 show(s.block h.c).1=_
 rw[H.hcc,H.hm.block]
theorem HC.bok{kp:Prop}{c:Cfg}{N bd:Nat}{h:HpS}{s:Dev}{a u:Int}{L:List Int}(H:HC kp c N bd h s a u L):(s.block h.c).2=0:=by rw[H.hcc,H.hm.block]
theorem HC.begin{kp:Prop}{c:Cfg}(hc:bA c){N bd:Nat}{h:HpS}{s:Dev}{a u:Int}{L:List Int}(H:HC kp c N bd h s a u L){room:Int}(h0:0≤room)(hr:¬ c.space - u<room){x:Int}{h':HpS}{s':Dev}(hb:h.begR s room x h' s'):
 x=0∧s'=s∧h'.T=h.T∧HO kp c N bd s.now [] h' s a u u L:=by
 have hbl:=H.blk
 rcases hb with ⟨h1,_⟩ | ⟨_,h1,_⟩ | ⟨_,_,a1,h1,s1,hor,hor2⟩
 ·rw[H.ho] at h1;cases h1
 ·omega
 rcases hor with ⟨h2,_⟩ | ⟨h2,rfl,rfl,rfl⟩
 ·rw[hbl,H.hcc] at h2;exact absurd h2 hr
 rcases hor2 with ⟨h3,_⟩ | ⟨_,h3,_⟩ | ⟨_,h3,rfl,rfl,rfl⟩
 ·exact absurd aa h3
 ·rw[show HpS.blk {h with X:=none} s1=h.blk s1 from rfl,hbl,H.hcc] at h3;exact absurd h3 hr
 have hS:=H.sk
 have hi:In kp c N s'.now [] (h.S.fresh ((h.blk s').place h.c (h.blk s').used) ((h.blk s').place h.c h.c.space)) s':=y9 hS.still H.hkp hS.n hS.hN hS.lc hS.lw hS.ln hS.sh
 refine⟨rfl,rfl,rfl,⟨H.hbd,H.hcc,rfl,hi,?_,H.hm,H.rc,mJ hc H.hcc H.hbd hi ?_ hS.u aa H.hw.t1 H.hw.tl H.hw.tp,?_,?_,H.hm.u0.1,Int.le_refl _⟩⟩
 ·exact hS.ld
 ·exact hS.ld
 ·show(h.blk s').place h.c (h.blk s').used=_
  rw[hbl,H.hcc];rfl
 ·show(h.blk s').place h.c h.c.space=_
  rw[hbl,H.hcc];rfl
section
variable {kp:Prop} {c:Cfg} {N bd:Nat} {old:Nat→Int} {js:List Nat} {h:HpS} {s:Dev} {a u u0:Int} {L:List Int}
theorem HO.uu(H:HO kp c N bd old js h s a u u0 L):U64 s:=H.hw.u
theorem HO.nc(H:HO kp c N bd old js h s a u u0 L):(s.n:Int)=c.words:=by rw[H.ss.n];exact H.ss.hN
theorem HO.put(hc:bA c)(H:HO kp c N bd old js h s a u u0 L)(hx:h.X=none){i v:Int}(hv:0≤v∧v<18446744073709551616)(hi:c.active≤i∧i<N)
 (hk:(∃ k∈L,∃ j,orf s.load k≤j∧j+1<osz s.load k∧i=k+1+j)∨((v=0∨v∈L)∧((∃ k∈L,∃ j,0≤j∧j<orf s.load k∧i=k+1+j)∨∃ r:Nat,(r:Int)<c.roots∧i=c.root r)))
 (hr:(h.S.ff≤i∧i<h.S.ft)∨i.toNat∈js∨(js.length:Int)<c.log):
 ∃ S' s' js',h.S.store s i v= .ok (0,S') s'∧HO kp c N bd old js' {h with S:=S'} s' a u u0 L∧(∀ x∈js,x∈js')∧js'.length≤js.length+1∧(¬ (h.S.ff≤i∧i<h.S.ft)∨js'=js)∧∀ j:Int,c.active≤j→s'.load j=if j=i then v else s.load j:=by
 have hA:=jm hc
 have hN:=H.ss.hN
 obtain⟨S',s',js',e1,e2,e3,e4,e5,e6⟩:=uR H.ss hc (i:=i.toNat) v (by omega) hv H.uu (hr.imp (fun h=>by omega) id)
 rw[show((i.toNat:Nat):Int)=i by omega] at e1 e5 e6
 have hm':=H.hm.set hc e6 hk
 refine⟨S',s',js',e1,⟨H.hbd,H.hcc,H.ho,e2,e4.2.2.1.trans H.dd,hm',(mI H.ss.logw e1).readC hc H.nc H.rc,mJ hc H.hcc H.hbd e2 (e4.2.2.1.trans H.dd) e3 hx H.hw.t1 H.hw.tl H.hw.tp,e4.1.trans H.ff,e4.2.1.trans H.ft,H.ule⟩,fun x hx=> ?_,?_,?_,e6⟩
 ·rcases e5 with e5 | ⟨e5,_⟩<;>rw[e5]
  ·exact hx
  ·exact List.mem_append_left _ hx
 ·rcases e5 with e5 | ⟨e5,_⟩<;>rw[e5]<;>simp
 ·rcases e5 with e5 | ⟨_,e5⟩
  ·exact .inr e5
  ·exact .inl (by simpa using e5)
theorem HO.alloc(hc:bA c)(H:HO kp c N bd old js h s a u u0 L)(hx:h.X=none){w r:Int}(hw:0≤r∧r≤w∧w≤64)(hroom:¬ c.space - u<w+1)(hr:(c.active+1).toNat∈js∨(js.length:Int)<c.log)(hl:h.T.last+1≤1000000000)(htl:h.T.at_.length+1≤800000):
 ∃ h' s' js',h.alloc s w r= .ok (((h.T.take (c.frm a+u)).1,0),h') s'∧HO kp c N bd old js' h' s' a (u+(w+1)) u0 (L++[c.frm a+u])∧h'.X=none∧h'.T=(h.T.take (c.frm a+u)).2∧(js'=js∨js'=js++[(c.active+1).toNat])∧js'.length≤js.length+1∧
  ∀ j,c.active≤j→s'.load j=if c.frm a+u≤j∧j<c.frm a+u+(w+1) then (if j=c.frm a+u then ei w r else 0) else if j=c.active+1 then u+(w+1) else s.load j:=by
 have hu0:=H.hm.u0
 have hf:=uZ hc H.hm.a01
 have hr1':=hc.r1
 have hle:=H.ule
 obtain⟨S',s',js',e1,e2,e3,e4,e5,e5',e6,e7⟩:=za hc H.ss H.uu H.hm hw hroom (by rw[H.ff];omega) H.ft (by rw[H.ff];omega) hr
 have hT:=B7 (T:=h.T) (k:=c.frm a+u) ⟨H.hw.t1.1,hl⟩ htl H.hw.tp (by omega)
 refine⟨{h with S:=S',T:=(h.T.take (c.frm a+u)).2},s',js',?_,⟨H.hbd,H.hcc,H.ho,e2,e4.2.2.1.trans H.dd,e6,(y6 H.ss.logw e1).readC hc H.nc H.rc,mJ hc H.hcc H.hbd e2 (e4.2.2.1.trans H.dd) e3 hx hT.1 hT.2.1 hT.2.2,e4.1.trans H.ff,e4.2.1.trans H.ft,by omega⟩,hx,rfl,e5',e5,e7⟩
 unfold HpS.alloc
 rw[if_pos H.ho,H.hcc,e1]
 simp only[aR]
 rw[if_neg (by simp)]
theorem HO.obj(hc:bA c)(H:HO kp c N bd old js h s a u u0 L){n k:Int}(hn:bM h.T.at_ n=some k)(hk:k∈L):h.obj s n=((osz s.load k - 1,orf s.load k,k),0):=by
 unfold HpS.obj
 rw[hn,if_pos (show(some k).isSome=true from rfl),H.blk,H.hcc]
 show s.objOf c _ k=_
 exact(ry hc H.hm.bw H.hm.heap hk).1
theorem HO.write(hc:bA c)(H:HO kp c N bd old js h s a u u0 L)(hx:h.X=none){n k i v:Int}(hn:bM h.T.at_ n=some k)(hk:k∈L)(hi:orf s.load k≤i∧i+1<osz s.load k)(hv:0≤v∧v<18446744073709551616)(hr:(h.S.ff≤k+1+i∧k+1+i<h.S.ft)∨(k+1+i).toNat∈js∨(js.length:Int)<c.log):
 ∃ h' s' js',h.write s n i v= .ok (0,h') s'∧HO kp c N bd old js' h' s' a u u0 L∧h'.X=none∧h'.T=h.T∧(∀ x∈js,x∈js')∧js'.length≤js.length+1∧(¬ (h.S.ff≤k+1+i∧k+1+i<h.S.ft)∨js'=js)∧∀ j:Int,c.active≤j→s'.load j=if j=k+1+i then v else s.load j:=by
 have hz:=ii s.load k
 have hf:=uZ hc H.hm.a01
 have hr1':=hc.r1
 have ht:=H.hm.tile.mem hk
 have hu0:=H.hm.u0
 have hN:=H.ss.hN
 obtain⟨S',s',js',e1,e2,e3,e4,e5,e6⟩:=H.put hc hx (i:=k+1+i) hv (by omega) (.inl ⟨k,hk,i,hi.1,hi.2,rfl⟩) hr
 refine⟨_,s',js',?_,e2,hx,rfl,e3,e4,e5,e6⟩
 have ho:cq (osz s.load k - 1,orf s.load k,k) i false=(k+1+i,0):=by
  unfold cq
  rw[if_neg (by simp only;omega),if_neg (by simp;omega)]
 unfold HpS.write
 rw[if_pos H.ho,H.obj hc hn hk,if_neg (by simp)]
 unfold iN
 simp only
 rw[ho,if_neg (by simp),show gh (k+1+i) v s h.S= .ok (0,S') s' from e1]
 rfl
theorem HO.commit(hc:bA c)(H:HO kp c N bd old js h s a u u0 L)(hx:h.X=none):
 ∃ h' s',h.commit s= .ok (0,h') s'∧HC kp c N bd h' s' a u L∧h'.X=none∧h'.T=h.T∧(kp→As s')∧∀ j:Int,c.active≤j→s'.load j=s.load j:=by
 have hA:=jm hc
 have hN:=H.ss.hN
 obtain⟨s',e1,e2,e3,e4,e5,e6⟩:=xz H.ss hc
 have hk:=Cc H.ss.logw
 have hck:=tY H.ss.logw e1
 have hu':=hck.1 H.uu
 have hld:∀ j:Int,c.active≤j→s'.load j=s.load j:=fun j hj=>by
  unfold Dev.load Dev.has
  rw[e3,H.ss.n]
  split
  ·rw[e4,oe (by omega)]
  ·rfl
 have h8:K8 s s':=⟨by rw[e3,H.ss.n],fun x hx=>by rw[e4,oe (by omega)]⟩
 have hsk:SK c N bd {h.S with L:=h.S.L.shut} s':=⟨e2,hu',e3,hN,hk.2.2.1.trans H.ss.hc,hk.1,hk.2.1,hk.2.2.2.trans H.dd,e6⟩
 refine⟨{h with o:=false,S:={h.S with L:=h.S.L.shut}},s',?_,⟨H.hbd,H.hcc,rfl,hsk,H.hm.congr hc hld,h8.readC hc H.nc H.rc,⟨H.hw.c,⟨hsk.lw,by rw[e3];omega,by rw[H.hbd];exact hsk.ld,by rw[H.hcc];exact hsk.lc⟩,fun x=>(by cases x),hu',H.hw.t1,H.hw.tl,H.hw.tp,fun X hX=>by rw[show h.X=some X from hX] at hx;cases hx⟩,fun hp=>(e5 hp).kept⟩,hx,rfl,e5,hld⟩
 unfold HpS.commit
 rw[if_pos H.ho,e1]
 rfl
end
theorem xg(B:World)(Fr:List HP)(x0 x1 x2:Int)(hx:0≤x0∧0≤x1∧0≤x2)(c:Cfg)(hcm:c=mkC x0 x1 x2):
 ∀ w,Holds B Fr w→Calls Tryz.prog 44 [.agg #[u16 x0,u16 x1,u16 x2],.slice none 0 0].toArray w (Ret B (fun rv H'=>∃ (bd bh bm br N:Nat) (s:Dev),(N:Int)=c.words∧HC True c N bd (iP bd c s) s 0 0 []∧rv= .tuple #[ptr bd,ptr bh,ptr bm]∧H'=dC bh (iP bd c s)::aB bd s::eC bm br c.roots.toNat c::eB br c.roots.toNat::Fr) (fun _ _=>False)):=by
 refine ao func44 aa ntmps44 aa ?_
 have hc:bA c:=by rw[hcm];exact vY hx.1 hx.2.1 hx.2.2
 have hA:=jm hc
 have hr1:=hc.r1
 refine ac (ab (kPb (aY aa) aa fun b2=>(kPa aa aa (kPa aa aa (kPa aa aa (ad (ac (ab (kPv (ah isAgg96 sizeOf96 aa aa) aa ?_)))))))))
 refine aw aa (ar call73 aa) (vZ _ _ x0 x1 x2 hx.1 hx.2.1 hx.2.2) .free aa aa ?_
 refine kPb (aD zeroValue134 aa) aa fun b7=>(kPs (az (vs:=_) sizeOf134 aa aa aa aa aa) aa (ad (ac ?_)))
 rw[←hcm]
 refine ab (kPv (ah isAgg134 sizeOf134 aa aa) aa ?_)
 refine kPm aa aa (aJ aa (ar call74 aa) (dR _ _ c hc none 0 [] (by decide) (fun _ h=>absurd h (Nat.not_lt_zero _)) SlR.nil) .free aa aa ?_)
 rintro _ _ ⟨bd,pa,N,s0,hN,hf,rfl,rfl⟩
 have hfm:=pj hc hN hf
 have hu0:=io (kz pa N) hc hf
 have hOk:=hfm.okd hc hN hu0
 have hHC:=hfm.hc hc hN hu0 bd
 have hsn:=hfm.n
 refine kPm aa aa (kPv (aA aa aa) aa (kPv (aA aa aa) aa (kPa aa aa (kPa aa aa (ad (an [9,8,7,6,5,4] rfl (ac (ac (ab (kPm aa aa (kPv (bu aa) aa ?_)))))))))))
 refine ad (bI aa (rfl) (aq (ac (ab (kPm aa aa ?_)))))
 refine aU aa (ar call75 aa) (xB B _ bd s0 hu0 (by omega)) .free aa aa ?_ ?_
 rotate_left
 ·rintro _ _ ⟨s9,hE,hun,rfl,rfl⟩
  exact(hOk.noff hun).elim
 rintro _ _ hor
 rcases hor with ⟨e,he,hE,_,_⟩ | ⟨bh,L',s',hE,hun,rfl,rfl⟩
 ·exact absurd (hOk.open_ hc hE) he
 obtain rfl:=hOk.undo hun
 rw[show s'.readC.1=c by rw[hOk.rc]]
 refine kPm aa aa (kPv (aA aa aa) aa (kPv (aA aa aa) aa (kPa aa aa (kPa aa aa (ad (an [11,10,8,7,6,5,4] rfl (ac (ac (ab (kPm aa aa (kPv (am aa aa aa) aa ?_)))))))))))
 refine kPm aa aa ?_
 apply gc (tp:=32) (t:=29) (σ1:=[(29,_),(10,_),(8,_),(7,_),(6,_),(5,_),(4,_)]) 3 rfl (aC rfl)
 ·intro hg1
  refine al aa (ak aa) (.on aa aa (ae hg1)) aa aa (al aa (dw runUnderlying91 aa aa aa) (.on aa aa (ae hg1)) aa aa (kPv (aH aa hg1 aa) aa ?_))
  exact aW aa (aC aa) (fk hg1)
 ·intro hg1
  refine ap aa (.on aa aa (ag hg1)) aa (ap aa (.on aa aa (ag hg1)) aa (kPv (ax aa hg1 aa) aa ?_))
  exact aW aa (aC aa) (fj hg1)
 refine ad (bI aa (rfl) (aq (ac (ab (kPm aa aa (kPm aa aa (kPv (ah isAgg134 sizeOf134 aa aa) aa ?_)))))))
 refine aJ aa (ar call76 aa) (AT B _ c hc c.roots.toNat (by omega)) .free aa aa ?_
 rintro _ _ ⟨bm,br,rfl,rfl⟩
 refine kPa aa aa (kPa aa aa (kPa aa aa (ad (an [6,5,4] rfl (ay ?_)))))
 exact kX results44 (.tmp aa) (.tmp aa) (.tmp aa) (fun w hw=>⟨_,⟨bd,bh,bm,br,N,_,hN,hHC,rfl,rfl⟩,((hw.dp [4,4]).pk [2,2])⟩)
theorem mT{B:World}{P:Program}{f:FuncId}{vs:Array Value}{bh bd:Nat}{Fr:List HP}{α:Type}{m:Out (α×HpS)}{enc:α→Value}{a:α}{h':HpS}{s':Dev}(e:m= .ok (a,h') s'){w:World}(h:Calls P f vs w (Ret B (fun rv H'=>∃ a h' s',m= .ok (a,h') s'∧rv=enc a∧H'=dC bh h'::aB bd s'::Fr) (fun ch H'=>∃ s',m= .off s'∧ch=dQ∧H'=aB bd s'::Fr))):
 Calls P f vs w (Ret B (fun rv H'=>rv=enc a∧H'=dC bh h'::aB bd s'::Fr) (fun _ _=>False)):=
 h.mono (Ret.mono (fun rv H' ⟨a1,h1,s1,e1,e2,e3⟩=>by rw[e] at e1;cases e1;exact⟨e2,e3⟩) (fun ch H' ⟨s1,e1,_⟩=>by rw[e] at e1;cases e1))
theorem BD{h h':HpS}{s s':Dev}{room:Int}(ho:h.o=false)(hb:h.begR s room 0 h' s'):h'.X=none:=by
 rcases hb with ⟨h1,_⟩ | ⟨_,_,h1,_⟩ | ⟨_,_,a1,h1,s1,hor,hor2⟩
 ·rw[ho] at h1;cases h1
 ·cases h1
 rcases hor2 with ⟨h3,h4,_⟩ | ⟨_,_,h4,_⟩ | ⟨rfl,_,_,rfl,_⟩
 ·exact absurd h4.symm h3
 ·cases h4
 ·rcases hor with ⟨_,h2⟩ | ⟨_,_,rfl,_⟩
  ·rcases h2 with ⟨h5,_⟩ | ⟨_,X,s2,_,S',_,hor3⟩
   ·rw[show h.o=true from h5] at ho;cases ho
   ·rcases hor3 with ⟨_,rfl⟩ | ⟨_,ord,_,rfl⟩<;>rfl
  ·rfl
section
variable {B:World} {Fr:List HP} {bh bd:Nat} {h h':HpS} {s s':Dev}
theorem B3(hW:dZ h s)(hb:h.bd=bd){n i v x:Int}(hv:0≤v∧v<18446744073709551616)(e:h.write s n i v= .ok (x,h') s'):∀ w,Holds B (dC bh h::aB bd s::Fr) w→Calls Tryz.prog 48 [ptr bh,i64 n,i64 i,w64 v].toArray w (Ret B (fun rv H'=>rv=i64 x∧H'=dC bh h'::aB bd s'::Fr) (fun _ _=>False)):=by
 subst hb;exact fun w hw=>mT e (xA B Fr bh h s hW n i v hv w hw)
theorem By(hW:dZ h s)(hb:h.bd=bd){x:Int}(e:h.commit s= .ok (x,h') s'):∀ w,Holds B (dC bh h::aB bd s::Fr) w→Calls Tryz.prog 49 [ptr bh].toArray w (Ret B (fun rv H'=>rv=i64 x∧H'=dC bh h'::aB bd s'::Fr) (fun _ _=>False)):=by
 subst hb;exact fun w hw=>mT e (uW B Fr bh h s hW w hw)
theorem C1(hW:dZ h s)(hb:h.bd=bd){w_ r at_ x:Int}(e:h.alloc s w_ r= .ok ((at_,x),h') s'):∀ w,Holds B (dC bh h::aB bd s::Fr) w→Calls Tryz.prog 47 [ptr bh,.agg #[i64 w_,i64 r]].toArray w (Ret B (fun rv H'=>rv= .tuple #[i64 at_,i64 x]∧H'=dC bh h'::aB bd s'::Fr) (fun _ _=>False)):=by
 subst hb;exact fun w hw=>mT (enc:=fun a:Int×Int=> .tuple #[i64 a.1,i64 a.2]) e (uT B Fr bh h s hW w_ r w hw)
theorem B9(hW:dZ h s)(hb:h.bd=bd):∀ w,Holds B (dC bh h::aB bd s::Fr) w→Calls Tryz.prog 50 [ptr bh].toArray w (a8 B (dC bh h::aB bd s::Fr) (BN (h.stats s))):=by
 subst hb;exact qx B Fr bh h s hW
theorem CV{kp:Prop}{c:Cfg}(hc:bA c){N:Nat}{a u:Int}{L:List Int}(H:HC kp c N bd h s a u L){room:Int}(h0:0≤room)(hr:¬ c.space - u<room):∀ w,Holds B (dC bh h::aB bd s::Fr) w→Calls Tryz.prog 46 [ptr bh,i64 room].toArray w (Ret B (fun rv H'=>∃ h',h'.X=none∧h'.T=h.T∧HO kp c N bd s.now [] h' s a u u L∧rv=i64 0∧H'=dC bh h'::aB bd s::Fr) (fun _ _=>False)):=by
 have hb:=H.hbd
 subst hb
 refine fun w hw=>(xE B Fr bh h s H.hw H.bok room w hw).mono (Ret.mono ?_ ?_)
 ·rintro rv H' ⟨x,h',s',hb,rfl,rfl⟩
  obtain⟨rfl,rfl,hT,HO'⟩:=H.begin hc h0 hr hb
  have hx:h'.X=none:=BD H.ho hb
  exact⟨h',hx,hT,HO',rfl,rfl⟩
 ·rintro ch H' ⟨s',⟨_,h1,_⟩,_⟩
  rw[H.blk,H.hcc] at h1
  exact absurd h1 hr
end
theorem Da{s:Dev}{c:Cfg}{b:Blk}(h0:b.has c 0=false):∀ (ws:List Int) (x:gX),(∀ v∈ws,v=0)→ws.foldl (s.see c b) x=x
 | [],_,_=>rfl
 | v::t,x,h=>by
   have hv:=h v (List.mem_cons_self ..)
   subst hv
   simp only[List.foldl_cons]
   rw[show s.see c b x 0=x from by unfold Dev.see;rw[if_pos (.inr h0)]]
   exact Da h0 t x fun v hv=>h v (List.mem_cons_of_mem _ hv)
theorem rh{s:Dev}{c:Cfg}(hc:bA c){b:Blk}(hb:ge c b){ws:List Int}(h:∀ v∈ws,v=0):s.reachSize c b ws=0:=by
 have h1:=hb.act
 have h4:=iF hc (k:=b.act) (by omega)
 have h0:b.has c 0=false:=by unfold Blk.has;simp;omega
 unfold Dev.reachSize Dev.reach
 rw[Da h0 ws _ h]
 unfold Dev.reachL
 rfl
theorem xD{kp:Prop}{c:Cfg}(hc:bA c){N bd:Nat}{h:HpS}{s:Dev}{a:Int}(H:HC kp c N bd h s a 0 [])(hT:h.T.at_=[]):h.stats s=⟨0,0,0,0,false⟩:=by
 have hz:∀ v∈h.words++(h.blk s).rts,v=0:=fun v hv=>by
  rcases List.mem_append.1 hv with hv | hv
  ·unfold HpS.words at hv
   rw[hT] at hv
   simp[cj] at hv
  ·rw[H.blk] at hv
   exact(H.hm.heap.roots v hv).resolve_right fun h=>by cases h
 unfold HpS.stats
 rw[hT,H.sk.ln,H.ho,rh H.hw.c (dB H.hw.c H.hw.u) hz,H.blk]
 rfl
theorem isW{B:World}{Fr:List HP}{bm br n bh bd:Nat}{c:Cfg}{h:HpS}{s:Dev}(hn:n≤1000)(hW:dZ h s)(hb:h.bd=bd)(hst:h.stats s=⟨0,0,0,0,false⟩)(hck:s.check h.c=0):∀ w,Holds B (dC bh h::aB bd s::eC bm br n c::eB br n::Fr) w→Calls Tryz.prog 45 [ptr bm,ptr bh].toArray w (a8 B (dC bh h::aB bd s::eC bm br n c::eB br n::Fr) (.bool true)):=by
 subst hb;exact AU B Fr bm br n c hn bh h s hW hst hck
theorem HC.check{kp:Prop}{c:Cfg}(hc:bA c){N bd:Nat}{h:HpS}{s:Dev}{a u:Int}{L:List Int}(H:HC kp c N bd h s a u L):s.check h.c=0:=by
 rw[H.hcc];exact pd hc H.hw.u H.hm.block H.hm.heap
theorem uo{p:Int}(hp:p≠0):(⟨[],[],0⟩:gG).take p=(1,⟨[(1,p)],[(p,1)],1⟩):=by
 unfold gG.take
 rw[if_neg hp,if_neg (by simp[bM])]
 rfl
theorem AP{m:Int→Int}{k w r:Int}(h:0≤r∧r≤w∧w≤64)(e:m k=ei w r):orf m k=r∧osz m k=w+1:=by
 unfold orf osz
 rw[e,r8 h];exact⟨rfl,rfl⟩
theorem vi(B:World)(Fr:List HP):
 ∀ w,Holds B Fr w→Calls Tryz.prog 24 [].toArray w (a8 B Fr (.bool true)):=by
 refine ao func24 aa ntmps24 aa ?_
 obtain⟨c,hcm,hcs,hcl,hcr⟩:∃ c,c=mkC 0 0 40∧c.space=48∧c.log=3∧c.roots=1:=⟨_,rfl,rfl,rfl,rfl⟩
 have hc:bA c:=by rw[hcm];exact vY (by decide) (by decide) (by decide)
 have hA:=jm hc
 have hf0:=uZ hc (a:=0) (by decide)
 refine ac (ab (kPa aa aa (ad (ac (ac (ab (aw aa (ar call43 aa) (vj _ _) .free aa aa ?_)))))))
 refine kPv (bu aa) aa (ad (bI aa (rfl) (aq (ac (ab (kPv (aQ aa (jl _ aa)) aa (aJ aa (ar call44 aa) (xg B _ 0 0 40 (by decide) c hcm) .free aa aa ?_)))))))
 rintro _ _ ⟨bd,bh,bm,br,N,s,hN,H0,rfl,rfl⟩
 obtain⟨h0,hh0⟩:∃ h0:HpS,h0=iP bd c s:=⟨_,rfl⟩
 rw[←hh0] at H0 ⊢
 have hT0:h0.T=⟨[],[],0⟩:=by rw[hh0];rfl
 refine kPm aa aa (kPv (aA aa aa) aa (kPv (aA aa aa) aa (kPv (aA aa aa) aa (kPa aa aa (kPa aa aa (kPa aa aa (ad (an [3,2,0] rfl (ac (ac (ab ?_)))))))))))
 refine kPm aa aa (kPv (dw runUnderlying91 aa aa aa) aa (kPm aa aa (al aa (ak aa) (.on aa aa (ae aa)) aa aa (al aa (ak aa) (.on aa aa (ae aa)) aa aa (aw aa (ar call45 aa) (isW (by omega) H0.hw H0.hbd (xD hc H0 (by rw[hT0])) (H0.check hc)) (.on aa aa (ae aa)) aa aa ?_)))))
 refine al aa (bu aa) (.on aa aa (ae aa)) aa aa (kPv (aH aa aa aa) aa (ad (an [22,2,0] rfl (bI aa (rfl) (aq (ac (ab (kPm aa aa (aJ aa (ar call46 aa) (CV hc H0 (by decide) (by omega)) .free aa aa ?_)))))))))
 rintro _ _ ⟨h1,hx1,hT1,H1,rfl,rfl⟩
 have hk1:h1.T.take (c.frm 0+0)=(1,⟨[(1,c.frm 0+0)],[(c.frm 0+0,1)],1⟩):=by rw[hT1,hT0];exact uo (by omega)
 obtain⟨h2,s2,js2,e2,H2,hx2,hT2,_,hjl2,hl2⟩:=H1.alloc hc hx1 (w:=2) (r:=1) ⟨by decide,by decide,by decide⟩ (by omega) (.inr (by simp;omega)) (by rw[hT1,hT0];decide) (by rw[hT1,hT0];decide)
 rw[hk1] at e2 hT2
 have hk2:=AP (m:=s2.load) (k:=c.frm 0+0) (w:=2) (r:=1) ⟨by decide,by decide,by decide⟩ (by rw[hl2 _ (by omega),if_pos (by omega),if_pos rfl])
 obtain⟨h3,s3,js3,e3,H3,hx3,hT3,_⟩:=H2.write hc hx2 (n:=1) (k:=c.frm 0+0) (i:=1) (v:=7) (by rw[hT2];rfl) (by simp) (by omega) (by decide) (.inl (by rw[H2.ff,H2.ft];omega))
 obtain⟨h4,s4,e4,H4,hx4,hT4,_⟩:=H3.commit hc hx3
 have hu4:(h4.stats s4).used=3:=by
  show(h4.blk s4).used=3
  rw[H4.blk];rfl
 refine kPa aa aa (ad (ac (ab (kPm aa aa (kPv (aQ aa (kE _ _ aa aa)) aa (dP aa (ar call47 aa) (C1 H1.hw H1.hbd e2) .free aa aa ?_))))))
 refine kPm aa aa (kPv (aA aa aa) aa (kPv (aA aa aa) aa (kPa aa aa (kPa aa aa (ad (an [6,5,4,2,0] rfl (ac (ab (kPm aa aa (kPv (am aa aa aa) aa (kPm aa aa ?_)))))))))))
 refine al aa (ak aa) (.on aa aa (ae aa)) aa aa (al aa (am aa aa aa) (.on aa aa (ae aa)) aa aa (kPv (ax aa aa aa) aa (kPm aa aa (al aa (ak aa) (.on aa aa (ae aa)) aa aa (al aa (am aa aa aa) (.on aa aa (ae aa)) aa aa (kPv (ax aa aa aa) aa (kPm aa aa (al aa (ak aa) (.on aa aa (ae aa)) aa aa (dP aa (ar call48 aa) (B3 H2.hw H2.hbd (by decide) e3) (.on aa aa (ae aa)) aa aa ?_)))))))))
 refine al aa (am aa aa aa) (.on aa aa (ae aa)) aa aa (kPv (ax aa aa aa) aa (kPm aa aa (al aa (ak aa) (.on aa aa (ae aa)) aa aa (dP aa (ar call49 aa) (By H3.hw H3.hbd e4) (.on aa aa (ae aa)) aa aa ?_))))
 refine al aa (am aa aa aa) (.on aa aa (ae aa)) aa aa (kPv (ax aa aa aa) aa (kPm aa aa (al aa (ak aa) (.on aa aa (ae aa)) aa aa (aw aa (ar call50 aa) (B9 H4.hw H4.hbd) (.on aa aa (ae aa)) aa aa ?_))))
 refine al aa (hZ runUnderlying106 (t:=3) (off:=0) aa isAgg3 aa aa) (.on aa aa (ae aa)) aa aa (al aa (am aa aa aa) (.on aa aa (ae aa)) aa aa (kPv (ax aa aa aa) aa (kPa aa aa (ad (an [0] rfl (ay ?_))))))
 exact au results24 aa (fun w hw=>⟨by simp[hu4],(hw.dp [0,0,0,0])⟩)
def awS:List UInt8:=[97,108,108,111,99,32,49,32,50,32,35,32,97,32,110,111,100,101]
theorem DH:num [49]=some 1:=by rw[←nO];rfl
theorem DG:num [50]=some 2:=by rw[←nO];rfl
theorem Ak:cH awS=([(3,[1,2])],0,0):=by
 have h1:spl 10 awS=[awS]:=by decide
 have h2:tok (bR awS) none=[[97,108,108,111,99],[49],[50]]:=by decide
 have h3:cI [[97,108,108,111,99],[49],[50]]=((3,[1,2]),0):=rq (ws:=[[97,108,108,111,99],[49],[50]]) (k:=3) (by decide) rfl (by simp[fC,DH,DG])
 have h4:stP awS p0=(true,1,[(3,[1,2])],[],0,0):=by
  unfold stP p0
  simp only
  rw[h2,h3]
  rfl
 exact qd (by decide) (by rw[h1,uQ (by rw[h4]),h4];rfl)
theorem Aa{rs:List CR}(h:pU rs [(3,[1,2])]):∃ q c,rs=[(3,(q,2,c),[1,2])]:=by
 obtain⟨h1,h2⟩:=h
 match rs,h1 with
 | [(k,(q,n,c),l)],h1=>
   simp only[List.map_cons,List.map_nil,crC,List.cons.injEq,Prod.mk.injEq,and_true] at h1
   obtain⟨rfl,rfl⟩:=h1
   have h3:n=2:=h2 _ (List.mem_cons_self ..)
   subst h3
   exact⟨q,c,rfl⟩
theorem qO{B:World}{P:Program}{σ:Env}{H:List HP}{d:Option Tmp}{ty:TypeId}{p:String}{af:Array Edge}{g:Option (Nat×Bool)}{t:TypeId}{x:Operand}{b off k i j m cap:Nat}{cs:List (List Value)}{c:List Value}{v:Value}(ht:∀ w,(isAgg t).run P w= .ok false w)(hr:SlN B H (.slice (some ⟨b,off,none⟩) k cap) m cs)(hx:evO σ x=some (.pointer (some ⟨b,off+i*m+j,none⟩)))(hi:cs[i]? =some c)(hj:c[j]? =some v):
 Evs P B σ H ⟨d,.load t x,ty,p,af,g⟩ v:=by
 intro a w kn hh
 obtain⟨q,cp,e,hc⟩:=hr.ex
 obtain⟨b',off',e',hl,h2⟩:=hc w hh i c hi
 cases e
 cases e'
 have h3:=h2 j (by rw[←hl];exact(List.getElem?_eq_some_iff.1 hj).1)
 rw[hj, ←Nat.add_assoc] at h3
 simp[execOp,kn.eval hx,Instr.loadAt,Instr.sureAddr,loadVar,ht,load,Sem.run,h3]
theorem CN{B:World}{H:List HP}{q:Option Addr}{c b:Nat}(h:SlR B H (.slice q 2 c) [w64 1,w64 2])(g:SlR B H (.slice (some ⟨b,0,none⟩) 2 2) [w64 1,w64 2]):
 ∀ w,Holds B H w→Calls Tryz.prog 25 [.slice q 2 c,.slice (some ⟨b,0,none⟩) 2 2].toArray w (a8 B H (.bool true)):=fun w hw=>
 tP B H q (some ⟨b,0,none⟩) c 2 [1,2] [1,2] (by decide) (by decide) (fun i hi=>vH h hw i hi) (fun _ _=>⟨_,_,rfl⟩) h g w hw
theorem BF:o6 (3,[1,2])=[97,108,108,111,99,32,49,32,50]:=by
 unfold o6
 rw[if_neg (by decide)]
 show([97,108,108,111,99]++([32]++Lib.decDigits 1))++([32]++Lib.decDigits 2)=_
 rw[kA (by decide),kA (by decide)]
 rfl
theorem CY{B:World}{H:List HP}[cW H B](gl:GL B)(fg:FG B){q:Option Addr}{c:Nat}(h:SlR B H (.slice q 2 c) [w64 1,w64 2]):
 ∀ w,Holds B H w→Calls Tryz.prog 13 [.agg #[i64 3,.slice q 2 c]].toArray w (a8 B H (str [97,108,108,111,99,32,49,32,50])):=fun w hw=>by
 rw[←BF]
 exact z8 B H gl fg 3 q c [1,2] (by decide) (by decide) h (fun i hi=>vH h hw i hi) w hw
theorem vh(B:World)(Fr:List HP)[cW Fr B](gl:GL B)(fg:FG B):
 ∀ w,Holds B Fr w→Calls Tryz.prog 11 [].toArray w (a8 B Fr (.bool true)):=by
 refine ao func11 aa ntmps11 aa (ac (ab (kPa aa aa (ad (ac (ac (ab (aw aa (ar call24 aa) (vi _ _) .free aa aa ?_))))))))
 refine kPv (bu aa) aa (ad (bI aa (rfl) (aq (ac (ab (aJ aa (ar call14 aa) (sN B Fr gl fg awS) .free aa aa ?_))))))
 rintro _ _ ⟨sv,hsv,rfl,rfl⟩
 rw[Ak]
 refine kPm aa aa (kPv (aA aa aa) aa (kPv (aA aa aa) aa (kPv (aA aa aa) aa (kPa aa aa (kPa aa aa (kPa aa aa (ad (an [3,2,1,0] rfl (ac (rC fun rs hrs=> ?_))))))))))
 obtain⟨qa,ca,hrs1⟩:=Aa hrs
 subst hrs1
 refine lY fun q4 cap4 hq4 hqi4=> ?_
 subst hq4
 obtain⟨b4,o4,rfl⟩:=hqi4 0 (Nat.zero_lt_succ _)
 refine ab (kPm aa aa (kPv (am aa aa aa) aa (kPm aa aa (al aa (ak aa) (.on aa aa (ae aa)) aa aa (al aa (am aa aa aa) (.on aa aa (ae aa)) aa aa (kPv (ax aa aa aa) aa (kPm aa aa (al aa (ak aa) (.on aa aa (ae aa)) aa aa (al aa (bE aa runUnderlying24 ⟨_,rfl⟩ rfl) (.on aa aa (ae aa)) aa aa (al aa (am aa aa aa) (.on aa aa (ae aa)) aa aa (kPv (ax aa aa aa) aa ?_)))))))))))
 refine kPm aa aa (al aa (ak aa) (.on aa aa (ae aa)) aa aa (al aa (mh (sz:=2) (m:=o4+0*2) runUnderlying24 sizeOf32 aa aa (by decide) (by simp) aa) (.on aa aa (ae aa)) aa aa (al aa (aF (m:=_) iH aa aa) (.on aa aa (ae aa)) aa aa (al aa (qO (i:=0) (j:=0) (c:=crE (3,(qa,2,ca),[1,2])) (v:=i64 3) isAgg29 (j0 nq 0 aa) aa aa aa) (.on aa aa (ae aa)) aa aa (al aa (am aa aa aa) (.on aa aa (ae aa)) aa aa (kPv (ax aa aa aa) aa (kPm aa aa (al aa (ak aa) (.on aa aa (ae aa)) aa aa (al aa (mh (sz:=2) (m:=o4+0*2) runUnderlying24 sizeOf32 aa aa (by decide) (by simp) aa) (.on aa aa (ae aa)) aa aa (al aa (aF (m:=_) iG aa aa) (.on aa aa (ae aa)) aa aa (al aa (qO (i:=0) (j:=1) (c:=crE (3,(qa,2,ca),[1,2])) (v:= .slice qa 2 ca) isAgg30 (j0 nq 0 aa) aa aa aa) (.on aa aa (ae aa)) aa aa ?_)))))))))))
 refine cL aa (Ae runUnderlying30 sizeOf25 zeroValue25 aa aa aa aa aa) (.on aa aa (ae aa)) aa aa ?_
 rintro _ _ ⟨b34,rfl,rfl⟩
 refine aw aa (ar call25 aa) (CN (oK 2 aa (t:=(3,(qa,2,ca),[1,2])) (List.mem_cons_self ..) aa) (SlR.row (b:=b34) (n:=2) (cap:=2) (off:=0) (cs:=[w64 1,w64 2]) aa aa)) (.on aa aa (ae aa)) aa aa ?_
 refine kPv (ax aa aa aa) aa (kPm aa aa (al aa (ak aa) (.on aa aa (ae aa)) aa aa (al aa (mh (sz:=2) (m:=o4+0*2) runUnderlying24 sizeOf32 aa aa (by decide) (by simp) aa) (.on aa aa (ae aa)) aa aa (al aa (iy (i:=0) (c:=crE (3,(qa,2,ca),[1,2])) isAgg32 sizeOf32 (j0 nq 1 aa) aa aa) (.on aa aa (ae aa)) aa aa (aw aa (ar call13 aa) (CY gl fg (oK 2 aa (t:=(3,(qa,2,ca),[1,2])) (List.mem_cons_self ..) aa)) (.on aa aa (ae aa)) aa aa ?_)))))
 refine al aa (mP aa aa aa) (.on aa aa (ae aa)) aa aa (kPv (ax aa aa aa) aa (kPa aa aa (ad (an [0] rfl (ay ?_)))))
 exact au results11 aa (fun w hw=>⟨by rfl,(hw.dp [0,0,0])⟩)
theorem mH{P:Program}{n:String}{d:DataW Unit}{r:List (String×DataW Unit)}{W:World}{g:Nat}{t:TypeId}(h:laidMet P ((n,d)::r) W)(hg:P.globalNamed n=some g)(ht:(P.globals[g]?).map (·.type)=some t):
 ∃ cs fuel p,W.var? P n=some cs∧DataW.trod (fun _=>()) P W 0 (fun _=>true) false fuel t cs.toList=some (d,p):=by
 obtain⟨ps,⟨g',t',cs,fuel,p,q,hg',ht',hv,hd,_⟩,_⟩:=h
 obtain rfl:=Option.some.inj (hg.symm.trans hg')
 obtain rfl:=Option.some.inj (ht.symm.trans ht')
 exact⟨cs,fuel,p,hv,hd⟩
theorem B8(s:ByteArray):str s.data.toList= .string s:=by
 show Value.string ⟨s.data.toList.toArray⟩=_
 rw[Array.toArray_toList]
theorem pi{H:Type}{enc:TypeId×Value→H}{P:Program}{W:World}{base fuel:Nat}{sp:Nat→Bool}{held:Bool}{TE:TypeId}{cs:List Value}{f0 f1:Field}{l:List UInt8}{n:Int}{p:List MemPlace}
 (ht:P.underlying TE=some (.struct #[f0,f1])) (o0:f0.offset=0) (o1:f1.offset=1) (c0:P.cellsOf f0.type=1) (c1:P.cellsOf f1.type=1) (cT:P.cellsOf TE=2) (h0:P.underlying f0.type=some .string) (h1:P.underlying f1.type=some (.int .i64))
 (h:DataW.trod enc P W base sp held fuel TE cs=some (.agg [.lit (.string l),.lit (.int .i64 n)],p)):cs=[str l,.int .i64 n]:=by
 obtain⟨y0,y1,m,e,hl,g0,g1⟩:=Go.ChangeShapes.trod_struct2 ht h
 rw[o0,c0] at g0
 rw[o1,c1] at g1
 rw[cT] at hl
 match cs,hl with
 | [u,v],_=>
   obtain⟨s,es,ey,_⟩:=DataW.trod_string h0 g0
   obtain⟨k,ek,ez,_⟩:=DataW.trod_int h1 g1
   have es:[u]=[Value.string s]:=es
   have ek:[v]=[Value.int .i64 k]:=ek
   cases es;cases ek
   rw[ey,ez] at e
   simp only[Prod.mk.injEq,DataW.agg.injEq,List.cons.injEq,DataW.lit.injEq,Lit.string.injEq,Lit.int.injEq,true_and,and_true] at e
   obtain⟨⟨rfl,rfl⟩,_⟩:=e
   rw[B8]
theorem q9{H:Type}{enc:TypeId×Value→H}{C:Checked}{os:Os}{f:FuncId}{fn:Func}{s:ChangeSpec}{conds:List PathCond}{apart fresh handsOn again:Bool}{laid:List (String×DataW Unit)}
 (own:ownKnob C.prog.godebug=none) (started:os.Started) (noInit:C.prog.inits.idxOf? f=none) (hfn:C.prog.funcs[f]? =some fn)
 (witness:∃ (w:World) (tape:Tape) (i:Input),w.os=os∧(w.forCall tape i).Shaped C.prog∧i.vars=[]∧Input.okWide C.prog (w.forCall tape i) .any w.heap.size f i∧
  ((s.pre enc C.prog fn conds apart (w.forCall tape i).memory i.args∧laidMetH C.prog laid (w.forCall tape i).memory)∧sizedMet enc C.prog fn (OpenSpec.ofChange s) apart (w.forCall tape i).memory i.args)∧({}:Assume).holds C.prog (lone (Frame.enter C.prog f i.args .normal) [] (w.forCall tape i)))
 (contract:∀ (W:World) (base:Nat) (args:Array Value) (ds gs:List (DataW H)) (before:List MemPlace),(∀ (j:Nat) t v,fn.params[j]? =some t→args[j]? =some v→Value.okWide C.prog W .any base t v)→
  DataW.Whole enc C.prog fn.params.toList s.vars apart W args.toList ds gs before→conds.all (PathCond.test C.prog ⟨fn.params.toList,ds,s.plain.varTypes C.prog,gs⟩)=true→laidMetH C.prog laid W→W.ShapedOpen C.prog→
  Calls C.prog f args W fun e W'=>∃ v,e= .returned v∧s.post enc C.prog fn apart fresh handsOn again W args v W'):
 ReturnsInHanded {} C os f .any (fun w args=>(s.pre enc C.prog fn conds apart w args∧laidMetH C.prog laid w)∧sizedMet enc C.prog fn (OpenSpec.ofChange s) apart w args) (s.post enc C.prog fn apart fresh handsOn again):=by
 refine returnsInHanded_of_calls own started noInit witness ?_
 intro w tape i _ hsh _ hok hpre _
 obtain⟨_,_,_,fn',hfn',_,_,_,_,hval⟩:=hok
 obtain rfl:fn'=fn:=Option.some.inj (hfn'.symm.trans hfn)
 obtain⟨⟨⟨ds,gs,before,hw,hc⟩,hx⟩,hz⟩:=hpre
 refine(contract (w.forCall tape i) w.heap.size i.args ds gs before hval (DataW.Whole.of_heap (w':=w.forCall tape i) (by rfl) hw) hc (laidMetH.of_heap (by rfl) hx) hsh).mono fun e W' ⟨v,he,hp⟩=> ?_
 subst he
 exact ChangeSpec.post_blind hp
def qH{H:Type}(k:Nat):DataW H:= .agg [.lit (.string (fw k)),.lit (.int .i64 (fm k))]
set_option maxRecDepth 100000 in
theorem Dn{W:World}{r:List (String×DataW Unit)}(h:laidMet Tryz.prog (("tumulus/script.forms",Rows.laid_tumulus_script_forms)::r) W):FG W:=by
 obtain⟨cs,fuel,p,hv,hd⟩:=mH (g:=1) (t:=62) h (by kernel_rfl) (by kernel_rfl)
 obtain⟨xs,m,_,ex,_,hxl,hel⟩:=DataW.trod_array underlying62 hd
 have em:xs.map (·.1)=(List.range 18).map qH:=(DataW.agg.inj (Prod.mk.inj ex).1).symm.trans (by kernel_rfl)
 have c2:Tryz.prog.cellsOf 61=2:=by kernel_rfl
 have each:∀ i,i<18→(cs.toList.drop (i*2)).take 2=[str (fw i),i64 (fm i)]:=fun i hi=>by
  have h1:=hel i hi
  rw[c2,List.getElem?_eq_getElem (by omega)] at h1
  have h2:(xs[i]'(by omega)).1=qH i:=by
   have:=congrArg (fun l=>l[i]?) em
   simp only[List.getElem?_map,List.getElem?_eq_getElem (show i<xs.length by omega),List.getElem?_range hi,Option.map_some,Option.some.injEq] at this
   exact this
  rw[show xs[i]'(by omega)=(qH i,(xs[i]'(by omega)).2) from Prod.ext h2 rfl] at h1
  exact pi underlying61 aa aa (by kernel_rfl) (by kernel_rfl) (by kernel_rfl) underlying9 underlying3 h1
 refine⟨fun i hi=>⟨_,_,rfl,rfl,fun j hj=> ?_⟩⟩
 have h1:=each (j / 2) (by omega)
 have h2:=mL (j / 2) (by omega)
 have h3:=congrArg (fun l=>l[j%2]?) (h1.trans h2.symm)
 simp only[List.getElem?_take,List.getElem?_drop,if_pos (show j%2<2 by omega),show j / 2*2+j%2=j by omega] at h3
 rw[←h3,show 0+(i*36+j)=j by omega]
 exact(World.var?_cell (by kernel_rfl) hv j).trans (by simp)
set_option maxRecDepth 100000 in
theorem De{W:World}{r:List (String×DataW Unit)}(h:laidMet Tryz.prog (("tumulus/tumuluslaw18.forms",Rows.laid_tumulus_tumuluslaw18_forms)::r) W):LF W:=by
 obtain⟨cs,fuel,p,hv,hd⟩:=mH (g:=0) (t:=56) h (by kernel_rfl) (by kernel_rfl)
 have e0:(Rows.laid_tumulus_tumuluslaw18_forms:DataW Unit)= .slice ((List.range 18).map qH) []:=by kernel_rfl
 rw[e0] at hd
 rcases Go.Deep.open_slice underlying56 hd with ⟨_,hx⟩ | ⟨y,len,cap,m,n,D,Pl,hcs,_,hl,hm,hmm,hx,hel⟩
 ·cases hx
 ·have hx1:(List.range 18).map qH=(List.range len).map D:=by injection hx with hx _;injection hx with hx _
  have hlen:len=18:=by have:=congrArg List.length hx1;simpa using this.symm
  subst hlen
  have hD:∀ i,i<18→D i=qH i:=fun i hi=>by
   have:=congrArg (fun l=>l[i]?) hx1
   simp only[List.getElem?_map,List.getElem?_range hi,Option.map_some,Option.some.injEq] at this
   exact this.symm
  have hm18:18≤m:=by rw[hmm];split<;>omega
  have c2:Tryz.prog.cellsOf 55=2:=by kernel_rfl
  have each:∀ i,i<18→W.cell? (y.add (i*2))=some (str (fw i))∧W.cell? ((y.add (i*2)).add 1)=some (i64 (fm i)):=fun i hi=>by
   obtain⟨cs',h1,h2⟩:=hel i (by omega)
   rw[c2] at h1
   rw[hD i hi] at h2
   have h3:=pi underlying55 rfl rfl (by kernel_rfl) (by kernel_rfl) (by kernel_rfl) underlying9 underlying3 h2
   subst h3
   have hs:=World.cells?_some h1
   exact⟨hs.2.2 0 (by decide),hs.2.2 1 (by decide)⟩
  obtain⟨b,o,s⟩:=y
  have hs:s=none:=by
   have h1:=(each 0 (by decide)).1
   have e0:(⟨b,o,s⟩:Addr).add (0*2)=⟨b,o,s⟩:=rfl
   rw[e0] at h1
   unfold World.cell? at h1
   split at h1
   ·cases s with
    | none=>rfl
    | some q=>simp at h1
   ·cases h1
  subst hs
  refine⟨b,o,cap,?_,⟨fun i hi=>⟨b,o,rfl,rfl,fun j hj=> ?_⟩⟩⟩
  ·have:=World.var?_cell (g:=0) (by kernel_rfl) hv 0
   rw[this, ←Array.getElem?_toList,hcs];rfl
  ·obtain⟨h1,h2⟩:=each i hi
   match j,hj with
   | 0,_=>exact(congrArg W.cell? (gE b o (i*2))).symm.trans h1
   | 1,_=>exact((congrArg (fun a:Addr=>W.cell? (a.add 1)) (gE b o (i*2))).trans (congrArg W.cell? (gE b (o+i*2) 1))).symm.trans h2
set_option maxRecDepth 100000 in
theorem Df{W:World}{r:List (String×DataW Unit)}(hs:W.ShapedOpen Tryz.prog)(h:laidMet Tryz.prog (("math/bits.deBruijn32tab",Rows.laid_math_bits_deBruijn32tab)::("math/bits.deBruijn64tab",Rows.laid_math_bits_deBruijn64tab)::("internal/strconv.uint64pow10",Rows.laid_internal_strconv_uint64pow10)::("unicode/utf8.acceptRanges",Rows.laid_unicode_utf8_acceptRanges)::("strconv.ErrRange",Rows.laid_strconv_ErrRange)::("strconv.ErrSyntax",Rows.laid_strconv_ErrSyntax)::r) W):GL W:=by
 have h2:=h.tail.tail
 have h4:=h2.tail.tail
 have cell:∀ {nm:String} {d d2:DataW Unit} {r:List (String×DataW Unit)} {g ti:Nat},laidMet Tryz.prog ((nm,.iface "*errors.errorString" d)::r) W→Tryz.prog.globalNamed nm=some g→(Tryz.prog.globals[g]?).map (·.type)=some ti→ti=76→∃ te pe,W.cell? ⟨g,0,none⟩=some (.iface te pe):=by
  intro nm d d2 r g ti h hg ht e
  subst e
  obtain⟨cs,fuel,p,hv,hd⟩:=mH h hg ht
  obtain⟨_,u,v,e,_⟩:=iface_of_trod underlying76 hd
  refine⟨u,v,?_⟩
  rw[World.var?_cell hg hv 0, ←Array.getElem?_toList,e];rfl
 refine⟨Lib.tabIs_of_head (g:=2) (by kernel_rfl) (by kernel_rfl) underlying181 underlying25 (by kernel_rfl) (by kernel_rfl) (show laidMet Tryz.prog (("internal/strconv.uint64pow10",Lib.tabData .u64 Lib.pow10Tab)::_) W from h2),?_,cell (g:=6) (d2:= .nil) h4.tail (by kernel_rfl) (by kernel_rfl) aa,cell (g:=7) (d2:= .nil) h4 (by kernel_rfl) (by kernel_rfl) aa⟩
 exact cell_of_shapedOpen_int (g:=3) (zero:= #[.int .i64 0]) hs (by decide+kernel) (by kernel_rfl) (by kernel_rfl) (by kernel_rfl) (by kernel_rfl) underlying3
structure vx(c:Cmd):Prop where
 k:0≤c.1∧c.1<18
 n:c.2.length=fm c.1.toNat
 b:∀ n∈c.2,0≤n∧n<18446744073709551616
theorem Cs{s:List UInt8}{u:Nat}(h:num s=some u):u<18446744073709551616:=by
 unfold num at h
 split at h
 ·rename_i v hv
  split at h
  ·cases h;exact sO hv
  ·cases h
 ·cases h
theorem vV:∀ {l:List (List UInt8)} {ns:List Int},fC l=some ns→ns.length=l.length∧∀ n∈ns,0≤n∧n<18446744073709551616
 | [],ns,h=>by cases h;exact⟨rfl,fun n hn=>by cases hn⟩
 | s::t,ns,h=>by
   unfold fC at h
   cases hn:num s with
   | none=>rw[hn] at h;cases h
   | some u=>
     rw[hn] at h
     cases ht:fC t with
     | none=>simp[ht] at h
     | some m=>
       simp only[ht,Option.map_some,Option.some.injEq] at h
       subst h
       obtain⟨h1,h2⟩:=vV ht
       have hu:=Cs hn
       refine⟨by simp[h1],fun n hn=> ?_⟩
       rcases List.mem_cons.1 hn with rfl | hn
       ·omega
       ·exact h2 n hn
theorem AV{ws:List (List UInt8)}(h:(cI ws).2=0):vx (cI ws).1:=by
 unfold cI at h ⊢
 cases hk:gz (ws.getD 0 []) with
 | none=>rw[hk] at h;cases h
 | some p=>
   obtain⟨k,m⟩:=p
   obtain⟨_,h2,_,rfl⟩:=iO hk
   rw[hk] at h
   simp only at h ⊢
   split at h
   ·cases h
   ·rename_i hl
    rw[if_neg hl]
    cases hn:fC (ws.drop 1) with
    | none=>rw[hn] at h;cases h
    | some ns=>
      obtain⟨h3,h4⟩:=vV hn
      refine⟨⟨by simp only;omega,by simp only;omega⟩,?_,h4⟩
      simp only[List.length_drop] at h3 ⊢
      rw[Int.toNat_natCast]
      omega
theorem BW:∀ (l:List (List UInt8)) (x:PSt),x.2.1.length≤400→(∀ c∈x.2.1,vx c)→(itl stP l x).2.2.1.length≤400∧∀ c∈(itl stP l x).2.2.1,vx c
 | [],x,h1,h2=>⟨h1,h2⟩
 | a::t,x,h1,h2=>by
   have key:(stP a x).2.2.1.length≤400∧∀ c∈(stP a x).2.2.1,vx c:=by
    unfold stP
    simp only
    split
    ·exact⟨h1,h2⟩
    ·split
     ·exact⟨h1,h2⟩
     ·rename_i h3
      split
      ·exact⟨h1,h2⟩
      ·rename_i h4
       refine⟨by simp only[List.length_append,List.length_cons,List.length_nil];omega,fun c hc=> ?_⟩
       rcases List.mem_append.1 hc with hc | hc
       ·exact h2 c hc
       ·rw[List.mem_singleton.1 hc];exact AV (by simpa using h4)
   unfold itl
   split
   ·exact BW t _ key.1 key.2
   ·exact key
theorem yN(s:List UInt8):(cH s).1.length≤400∧∀ c∈(cH s).1,vx c:=by
 unfold cH
 split
 ·exact⟨by simp,fun c hc=>by cases hc⟩
 ·split
  ·exact BW _ p0 (by decide) fun c hc=>by cases hc
  ·rename_i h
   have:=qZ (spl 10 s) p0 (by simpa using h)
   rw[this]
   exact⟨by simp,fun c hc=>by cases hc⟩
theorem vx.len{c:Cmd}(h:vx c):c.2.length≤3:=by
 rw[h.n];exact zr _ (by have:=h.k;omega)
theorem Ac{B:World}{H:List HP}{q:Option Addr}{cap:Nat}{rs:List CR}{l:List Cmd}(hr:pU rs l)(hl:∀ c∈l,c.2.length≤1000000)(i j:Nat)(e:H[i]? =some (gF 32 2 crE 0 (.slice q rs.length cap,rs)))(e2:H[j]? =some (grp (rs.map jW))):CmR B H q cap rs:=by
 refine⟨j0 nq i e,fun t ht=>⟨oK j e2 ht (hr.2 t ht),hr.2 t ht,hl (crC t) ?_⟩⟩
 rw[←hr.1];exact List.mem_map_of_mem ht
theorem tn{B:World}{Fr:List HP}{sv:Value}{rs:List CR}{w:World}(h:Holds B (gF 32 2 crE 0 (sv,rs)::Fr) w):∃ q cap,sv= .slice q rs.length cap:=by
 rcases eF h with ⟨e1,e2,_⟩ | ⟨bd,pre,rest,k,_,e,_⟩
 ·exact⟨none,0,by rw[e2,e1];rfl⟩
 ·exact⟨_,_,e⟩
theorem w8{B:World}{Fr:List HP}{s1 s2:Value}{l1 l2:List Cmd}(h1:∀ c∈l1,c.2.length≤1000000)(h2:∀ c∈l2,c.2.length≤1000000)(n1:l1.length≤1000000)(n2:l2.length≤1000000):
 ∀ w,Holds B (gb 0 (s1,l1)::gb 0 (s2,l2)::Fr) w→Calls Tryz.prog 15 [s1,s2].toArray w (a8 B (gb 0 (s1,l1)::gb 0 (s2,l2)::Fr) (.bool (decide (l1=l2)))):=fun w hw=>by
 obtain⟨r1,k1,g1⟩:=lp hw
 have g2:=g1.front 2 rfl
 obtain⟨r2,k2,g3⟩:=lp g2
 obtain⟨q2,c2,rfl⟩:=tn g3
 obtain⟨q1,c1,rfl⟩:=tn (g3.front 2 rfl)
 have e1:r1.length=l1.length:=by rw[←k1.1,List.length_map]
 have e2:r2.length=l2.length:=by rw[←k2.1,List.length_map]
 have g4:=AI B _ q1 q2 c1 c2 r1 r2 (by omega) (by omega) (Ac k1 h1 2 3 rfl rfl) (Ac k2 h2 0 1 rfl rfl) w g3
 rw[k1.1,k2.1] at g4
 refine g4.mono fun e w' h=> ?_
 have back:∀ w',Holds B (gF 32 2 crE 0 (.slice q2 r2.length c2,r2)::grp (r2.map jW)::gF 32 2 crE 0 (.slice q1 r1.length c1,r1)::grp (r1.map jW)::Fr) w'→Holds B (gb 0 (.slice q1 r1.length c1,l1)::gb 0 (.slice q2 r2.length c2,l2)::Fr) w':=fun w' h=>
  fx k1 ((fx k2 h).pk [1,1])
 exact⟨h.1,back _ h.2⟩
namespace scriptNumbers
theorem Ds:(Rows.scriptNumbersRow.inPlace==Tryz.pinned.checked.prog.inPlace 8)=true:=by kernel_rfl
theorem Dr:(Rows.scriptNumbersRow.unfollowed==Tryz.pinned.checked.prog.unfollowed 8)=true:=by kernel_rfl
theorem Dq:(Rows.scriptNumbersRow.recurses==Tryz.pinned.checked.prog.recurses 8)=true:=by kernel_rfl
theorem Dp:(Rows.scriptNumbersRow.named==Tryz.pinned.checked.prog.varsNamed 8)=true:=by kernel_rfl
theorem Do:joinedFacts Tryz.pinned.checked.prog 8 Tryz.f8 Rows.scriptNumbersSpec Rows.scriptNumbersRow=true:=by
 unfold joinedFacts
 rw[Ds,Dr,Dq,Dp]
 kernel_rfl
theorem named:Tryz.pinned.checked.prog.funcNamed Rows.scriptNumbersRow.func=some 8:=by kernel_rfl
theorem DK:Tryz.f8.isInstance Tryz.pinned.checked.prog Rows.scriptNumbersRow.origin Rows.scriptNumbersRow.targs:=of_decide_eq_true (by kernel_rfl)
theorem wrap:Tryz.f8.isWrapper Tryz.pinned.checked.prog Rows.scriptNumbersRow.wrapper Rows.scriptNumbersRow.mainSum:=by unfold Func.isWrapper;first | (rw[if_pos (by decide+kernel)];kernel_rfl) | (rw[if_neg (by decide+kernel)];exact⟨rfl,rfl⟩)
end scriptNumbers
end Go.Proofs.YtoakdoeajpjgkaaGreatDoor
