/- Part of a law's texts. Conditions: none. -/
import Derived.Test.YtoakdoeajpjgkaaGreatDoorQL18Mn
import Derived.LaidLaws
import Derived.Lib.LaidTab
import Derived.Stop.LaidErr
import Derived.Shelf.Vars
import Derived.MakeChecks
import Derived.ChangeSame
import Derived.Deep.Slices
import Derived.SizedLaws
import Derived.Stop.Joined
import Derived.Lay
import Derived.JoinedOf
open Go.Proofs.Tryz
set_option linter.all false
namespace Go.Proofs.YtoakdoeajpjgkaaGreatDoor
open Go
theorem Cw{s:Dev}{c:Cfg}{b:Blk}(h0:b.has c 0=false):∀ (ws:List Int) (x:gF),(∀ v∈ws,v=0)→ws.foldl (s.see c b) x=x
 | [],_,_=>rfl
 | v::t,x,h=>by
   have hv:=h v (List.mem_cons_self ..)
   subst hv
   simp only[List.foldl_cons]
   rw[show s.see c b x 0=x from by unfold Dev.see;rw[if_pos (.inr h0)]]
   exact Cw h0 t x fun v hv=>h v (List.mem_cons_of_mem _ hv)
theorem qz{s:Dev}{c:Cfg}(hc:bj c){b:Blk}(hb:fS c b){ws:List Int}(h:∀ v∈ws,v=0):s.reachSize c b ws=0:=by
 have h1:=hb.act
 have h4:=ip hc (k:=b.act) (by omega)
 have h0:b.has c 0=false:=by unfold Blk.has;simp;omega
 unfold Dev.reachSize Dev.reach
 rw[Cw h0 ws _ h]
 unfold Dev.reachL
 rfl
theorem wZ{kp:Prop}{c:Cfg}(hc:bj c){N bd:Nat}{h:HpS}{s:Dev}{a:Int}(H:HC kp c N bd h s a 0 [])(hT:h.T.at_=[]):h.stats s=⟨0,0,0,0,false⟩:=by
 have hz:∀ v∈h.words++(h.blk s).rts,v=0:=fun v hv=>by
  rcases List.mem_append.1 hv with hv | hv
  ·unfold HpS.words at hv
   rw[hT] at hv
   simp[bT] at hv
  ·rw[H.blk] at hv
   exact(H.hm.heap.roots v hv).resolve_right fun h=>by cases h
 unfold HpS.stats
 rw[hT,H.sk.ln,H.ho,qz H.hw.c (dA H.hw.c H.hw.u) hz,H.blk]
 rfl
theorem isW{B:World}{Fr:List HP}{bm br n bh bd:Nat}{c:Cfg}{h:HpS}{s:Dev}(hn:n≤1000)(hW:dV h s)(hb:h.bd=bd)(hst:h.stats s=⟨0,0,0,0,false⟩)(hck:s.check h.c=0):∀ w,Holds B (dB bh h::az bd s::eh bm br n c::ef br n::Fr) w→Calls Tryz.prog 45 [ptr bm,ptr bh].toArray w (aZ B (dB bh h::az bd s::eh bm br n c::ef br n::Fr) (.bool true)):=by
 subst hb;exact Ah B Fr bm br n c hn bh h s hW hst hck
theorem HC.check{kp:Prop}{c:Cfg}(hc:bj c){N bd:Nat}{h:HpS}{s:Dev}{a u:Int}{L:List Int}(H:HC kp c N bd h s a u L):s.check h.c=0:=by
 rw[H.hcc];exact n8 hc H.hw.u H.hm.block H.hm.heap
theorem tE{p:Int}(hp:p≠0):(⟨[],[],0⟩:gm).take p=(1,⟨[(1,p)],[(p,1)],1⟩):=by
 unfold gm.take
 rw[if_neg hp,if_neg (by simp[bI])]
 rfl
theorem Ad{m:Int→Int}{k w r:Int}(h:0≤r∧r≤w∧w≤64)(e:m k=ea w r):orf m k=r∧osz m k=w+1:=by
 unfold orf osz
 rw[e,rj h];exact⟨rfl,rfl⟩
theorem uA(B:World)(Fr:List HP):
 ∀ w,Holds B Fr w→Calls Tryz.prog 24 [].toArray w (aZ B Fr (.bool true)):=by
 refine ap func24 aa ntmps24 aa ?_
 obtain⟨c,hcm,hcs,hcl,hcr⟩:∃ c,c=mkC 0 0 40∧c.space=48∧c.log=3∧c.roots=1:=⟨_,rfl,rfl,rfl,rfl⟩
 have hc:bj c:=by rw[hcm];exact vi (by decide) (by decide) (by decide)
 have hA:=iT hc
 have hf0:=ui hc (a:=0) (by decide)
 refine ac (ab (kPa aa aa (ad (ac (ac (ab (ax aa (ar call43 aa) (uB _ _) .free aa aa ?_)))))))
 refine kPv (bu aa) aa (ad (bE aa (rfl) (aq (ac (ab (kPv (aP aa (iS _ aa)) aa (aI aa (ar call44 aa) (wD B _ 0 0 40 (by decide) c hcm) .free aa aa ?_)))))))
 rintro _ _ ⟨bd,bh,bm,br,N,s,hN,H0,rfl,rfl⟩
 obtain⟨h0,hh0⟩:∃ h0:HpS,h0=ix bd c s:=⟨_,rfl⟩
 rw[←hh0] at H0 ⊢
 have hT0:h0.T=⟨[],[],0⟩:=by rw[hh0];rfl
 refine kPm aa aa (kPv (aA aa aa) aa (kPv (aA aa aa) aa (kPv (aA aa aa) aa (kPa aa aa (kPa aa aa (kPa aa aa (ad (ao [3,2,0] rfl (ac (ac (ab ?_)))))))))))
 refine kPm aa aa (kPv (du runUnderlying91 aa aa aa) aa (kPm aa aa (aj aa (ak aa) (.on aa aa (ae aa)) aa aa (aj aa (ak aa) (.on aa aa (ae aa)) aa aa (ax aa (ar call45 aa) (isW (by omega) H0.hw H0.hbd (wZ hc H0 (by rw[hT0])) (H0.check hc)) (.on aa aa (ae aa)) aa aa ?_)))))
 refine aj aa (bu aa) (.on aa aa (ae aa)) aa aa (kPv (aD aa aa aa) aa (ad (ao [22,2,0] rfl (bE aa (rfl) (aq (ac (ab (kPm aa aa (aI aa (ar call46 aa) (Cf hc H0 (by decide) (by omega)) .free aa aa ?_)))))))))
 rintro _ _ ⟨h1,hx1,hT1,H1,rfl,rfl⟩
 have hk1:h1.T.take (c.frm 0+0)=(1,⟨[(1,c.frm 0+0)],[(c.frm 0+0,1)],1⟩):=by rw[hT1,hT0];exact tE (by omega)
 obtain⟨h2,s2,js2,e2,H2,hx2,hT2,_,hjl2,hl2⟩:=H1.alloc hc hx1 (w:=2) (r:=1) ⟨by decide,by decide,by decide⟩ (by omega) (.inr (by simp;omega)) (by rw[hT1,hT0];decide) (by rw[hT1,hT0];decide)
 rw[hk1] at e2 hT2
 have hk2:=Ad (m:=s2.load) (k:=c.frm 0+0) (w:=2) (r:=1) ⟨by decide,by decide,by decide⟩ (by rw[hl2 _ (by omega),if_pos (by omega),if_pos rfl])
 obtain⟨h3,s3,js3,e3,H3,hx3,hT3,_⟩:=H2.write hc hx2 (n:=1) (k:=c.frm 0+0) (i:=1) (v:=7) (by rw[hT2];rfl) (by simp) (by omega) (by decide) (.inl (by rw[H2.ff,H2.ft];omega))
 obtain⟨h4,s4,e4,H4,hx4,hT4,_⟩:=H3.commit hc hx3
 have hu4:(h4.stats s4).used=3:=by
  show(h4.blk s4).used=3
  rw[H4.blk];rfl
 refine kPa aa aa (ad (ac (ab (kPm aa aa (kPv (aP aa (ka _ _ aa aa)) aa (dM aa (ar call47 aa) (Cm H1.hw H1.hbd e2) .free aa aa ?_))))))
 refine kPm aa aa (kPv (aA aa aa) aa (kPv (aA aa aa) aa (kPa aa aa (kPa aa aa (ad (ao [6,5,4,2,0] rfl (ac (ab (kPm aa aa (kPv (am aa aa aa) aa (kPm aa aa ?_)))))))))))
 refine aj aa (ak aa) (.on aa aa (ae aa)) aa aa (aj aa (am aa aa aa) (.on aa aa (ae aa)) aa aa (kPv (au aa aa aa) aa (kPm aa aa (aj aa (ak aa) (.on aa aa (ae aa)) aa aa (aj aa (am aa aa aa) (.on aa aa (ae aa)) aa aa (kPv (au aa aa aa) aa (kPm aa aa (aj aa (ak aa) (.on aa aa (ae aa)) aa aa (dM aa (ar call48 aa) (Bm H2.hw H2.hbd (by decide) e3) (.on aa aa (ae aa)) aa aa ?_)))))))))
 refine aj aa (am aa aa aa) (.on aa aa (ae aa)) aa aa (kPv (au aa aa aa) aa (kPm aa aa (aj aa (ak aa) (.on aa aa (ae aa)) aa aa (dM aa (ar call49 aa) (AR H3.hw H3.hbd e4) (.on aa aa (ae aa)) aa aa ?_))))
 refine aj aa (am aa aa aa) (.on aa aa (ae aa)) aa aa (kPv (au aa aa aa) aa (kPm aa aa (aj aa (ak aa) (.on aa aa (ae aa)) aa aa (ax aa (ar call50 aa) (Bt H4.hw H4.hbd) (.on aa aa (ae aa)) aa aa ?_))))
 refine aj aa (gM runUnderlying106 (t:=3) (off:=0) aa isAgg3 aa aa) (.on aa aa (ae aa)) aa aa (aj aa (am aa aa aa) (.on aa aa (ae aa)) aa aa (kPv (au aa aa aa) aa (kPa aa aa (ad (ao [0] rfl (aB ?_))))))
 exact aw results24 aa (fun w hw=>⟨by simp[hu4],(hw.dp [0,0,0,0])⟩)
def awS:List UInt8:=[97,108,108,111,99,32,49,32,50,32,35,32,97,32,110,111,100,101]
theorem C3:num [49]=some 1:=by rw[←qV];rfl
theorem C2:num [50]=some 2:=by rw[←qV];rfl
theorem zC:cS awS=([(3,[1,2])],0,0):=by
 have h1:spl 10 awS=[awS]:=by decide
 have h2:tok (dm awS) none=[[97,108,108,111,99],[49],[50]]:=by decide
 have h3:cI [[97,108,108,111,99],[49],[50]]=((3,[1,2]),0):=vm (ws:=[[97,108,108,111,99],[49],[50]]) (k:=3) (by decide) rfl (by simp[gS,C3,C2])
 have h4:stP awS p0=(true,1,[(3,[1,2])],[],0,0):=by
  unfold stP p0
  simp only
  rw[h2,h3]
  rfl
 exact wB (by decide) (by rw[h1,BQ (by rw[h4]),h4];rfl)
theorem zu{rs:List CR}(h:qY rs [(3,[1,2])]):∃ q c,rs=[(3,(q,2,c),[1,2])]:=by
 obtain⟨h1,h2⟩:=h
 match rs,h1 with
 | [(k,(q,n,c),l)],h1=>
   simp only[List.map_cons,List.map_nil,crC,List.cons.injEq,Prod.mk.injEq,and_true] at h1
   obtain⟨rfl,rfl⟩:=h1
   have h3:n=2:=h2 _ (List.mem_cons_self ..)
   subst h3
   exact⟨q,c,rfl⟩
theorem p3{B:World}{P:Program}{σ:Env}{H:List HP}{d:Option Tmp}{ty:TypeId}{p:String}{af:Array Edge}{g:Option (Nat×Bool)}{t:TypeId}{x:Operand}{b off k i j m cap:Nat}{cs:List (List Value)}{c:List Value}{v:Value}(ht:∀ w,(isAgg t).run P w= .ok false w)(hr:SlN B H (.slice (some ⟨b,off,none⟩) k cap) m cs)(hx:evO σ x=some (.pointer (some ⟨b,off+i*m+j,none⟩)))(hi:cs[i]? =some c)(hj:c[j]? =some v):
 Evs P B σ H ⟨d,.load t x,ty,p,af,g⟩ v:=by
 intro a w kn hh
 obtain⟨q,cp,e,hc⟩:=hr.ex
 obtain⟨b',off',e',hl,h2⟩:=hc w hh i c hi
 cases e
 cases e'
 have h3:=h2 j (by rw[←hl];exact(List.getElem?_eq_some_iff.1 hj).1)
 rw[hj, ←Nat.add_assoc] at h3
 simp[execOp,kn.eval hx,Instr.loadAt,Instr.sureAddr,loadVar,ht,load,Sem.run,h3]
theorem B8{B:World}{H:List HP}{q:Option Addr}{c b:Nat}(h:SlR B H (.slice q 2 c) [w64 1,w64 2])(g:SlR B H (.slice (some ⟨b,0,none⟩) 2 2) [w64 1,w64 2]):
 ∀ w,Holds B H w→Calls Tryz.prog 25 [.slice q 2 c,.slice (some ⟨b,0,none⟩) 2 2].toArray w (aZ B H (.bool true)):=fun w hw=>
 zg B H q (some ⟨b,0,none⟩) c 2 [1,2] [1,2] (by decide) (by decide) (fun i hi=>A8 h hw i hi) (fun _ _=>⟨_,_,rfl⟩) h g w hw
theorem AY:kD (3,[1,2])=[97,108,108,111,99,32,49,32,50]:=by
 unfold kD
 rw[if_neg (by decide)]
 show([97,108,108,111,99]++([32]++Lib.decDigits 1))++([32]++Lib.decDigits 2)=_
 rw[ic (by decide),ic (by decide)]
 rfl
theorem Cj{B:World}{H:List HP}[dj H B](gl:GL B)(fg:FG B){q:Option Addr}{c:Nat}(h:SlR B H (.slice q 2 c) [w64 1,w64 2]):
 ∀ w,Holds B H w→Calls Tryz.prog 13 [.agg #[i64 3,.slice q 2 c]].toArray w (aZ B H (str [97,108,108,111,99,32,49,32,50])):=fun w hw=>by
 rw[←AY]
 exact sV B H gl fg 3 q c [1,2] (by decide) (by decide) h (fun i hi=>A8 h hw i hi) w hw
theorem uz(B:World)(Fr:List HP)[dj Fr B](gl:GL B)(fg:FG B):
 ∀ w,Holds B Fr w→Calls Tryz.prog 11 [].toArray w (aZ B Fr (.bool true)):=by
 refine ap func11 aa ntmps11 aa (ac (ab (kPa aa aa (ad (ac (ac (ab (ax aa (ar call24 aa) (uA _ _) .free aa aa ?_))))))))
 refine kPv (bu aa) aa (ad (bE aa (rfl) (aq (ac (ab (aI aa (ar call14 aa) (nN B Fr gl fg awS) .free aa aa ?_))))))
 rintro _ _ ⟨sv,hsv,rfl,rfl⟩
 rw[zC]
 refine kPm aa aa (kPv (aA aa aa) aa (kPv (aA aa aa) aa (kPv (aA aa aa) aa (kPa aa aa (kPa aa aa (kPa aa aa (ad (ao [3,2,1,0] rfl (ac (vD fun rs hrs=> ?_))))))))))
 obtain⟨qa,ca,hrs1⟩:=zu hrs
 subst hrs1
 refine oa fun q4 cap4 hq4 hqi4=> ?_
 subst hq4
 obtain⟨b4,o4,rfl⟩:=hqi4 0 (Nat.zero_lt_succ _)
 refine ab (kPm aa aa (kPv (am aa aa aa) aa (kPm aa aa (aj aa (ak aa) (.on aa aa (ae aa)) aa aa (aj aa (am aa aa aa) (.on aa aa (ae aa)) aa aa (kPv (au aa aa aa) aa (kPm aa aa (aj aa (ak aa) (.on aa aa (ae aa)) aa aa (aj aa (bH aa runUnderlying24 ⟨_,rfl⟩ rfl) (.on aa aa (ae aa)) aa aa (aj aa (am aa aa aa) (.on aa aa (ae aa)) aa aa (kPv (au aa aa aa) aa ?_)))))))))))
 refine kPm aa aa (aj aa (ak aa) (.on aa aa (ae aa)) aa aa (aj aa (p4 (sz:=2) (m:=o4+0*2) runUnderlying24 sizeOf32 aa aa (by decide) (by simp) aa) (.on aa aa (ae aa)) aa aa (aj aa (aF (m:=_) mR aa aa) (.on aa aa (ae aa)) aa aa (aj aa (p3 (i:=0) (j:=0) (c:=crE (3,(qa,2,ca),[1,2])) (v:=i64 3) isAgg29 (kW sW 0 aa) aa aa aa) (.on aa aa (ae aa)) aa aa (aj aa (am aa aa aa) (.on aa aa (ae aa)) aa aa (kPv (au aa aa aa) aa (kPm aa aa (aj aa (ak aa) (.on aa aa (ae aa)) aa aa (aj aa (p4 (sz:=2) (m:=o4+0*2) runUnderlying24 sizeOf32 aa aa (by decide) (by simp) aa) (.on aa aa (ae aa)) aa aa (aj aa (aF (m:=_) mQ aa aa) (.on aa aa (ae aa)) aa aa (aj aa (p3 (i:=0) (j:=1) (c:=crE (3,(qa,2,ca),[1,2])) (v:= .slice qa 2 ca) isAgg30 (kW sW 0 aa) aa aa aa) (.on aa aa (ae aa)) aa aa ?_)))))))))))
 refine cP aa (zx runUnderlying30 sizeOf25 zeroValue25 aa aa aa aa aa) (.on aa aa (ae aa)) aa aa ?_
 rintro _ _ ⟨b34,rfl,rfl⟩
 refine ax aa (ar call25 aa) (B8 (rR 2 aa (t:=(3,(qa,2,ca),[1,2])) (List.mem_cons_self ..) aa) (SlR.row (b:=b34) (n:=2) (cap:=2) (off:=0) (cs:=[w64 1,w64 2]) aa aa)) (.on aa aa (ae aa)) aa aa ?_
 refine kPv (au aa aa aa) aa (kPm aa aa (aj aa (ak aa) (.on aa aa (ae aa)) aa aa (aj aa (p4 (sz:=2) (m:=o4+0*2) runUnderlying24 sizeOf32 aa aa (by decide) (by simp) aa) (.on aa aa (ae aa)) aa aa (aj aa (lD (i:=0) (c:=crE (3,(qa,2,ca),[1,2])) isAgg32 sizeOf32 (kW sW 1 aa) aa aa) (.on aa aa (ae aa)) aa aa (ax aa (ar call13 aa) (Cj gl fg (rR 2 aa (t:=(3,(qa,2,ca),[1,2])) (List.mem_cons_self ..) aa)) (.on aa aa (ae aa)) aa aa ?_)))))
 refine aj aa (qR aa aa aa) (.on aa aa (ae aa)) aa aa (kPv (au aa aa aa) aa (kPa aa aa (ad (ao [0] rfl (aB ?_)))))
 exact aw results11 aa (fun w hw=>⟨by rfl,(hw.dp [0,0,0])⟩)
theorem pE{P:Program}{n:String}{d:DataW Unit}{r:List (String×DataW Unit)}{W:World}{g:Nat}{t:TypeId}(h:laidMet P ((n,d)::r) W)(hg:P.globalNamed n=some g)(ht:(P.globals[g]?).map (·.type)=some t):
 ∃ cs fuel p,W.var? P n=some cs∧DataW.trod (fun _=>()) P W 0 (fun _=>true) false fuel t cs.toList=some (d,p):=by
 obtain⟨ps,⟨g',t',cs,fuel,p,q,hg',ht',hv,hd,_⟩,_⟩:=h
 obtain rfl:=Option.some.inj (hg.symm.trans hg')
 obtain rfl:=Option.some.inj (ht.symm.trans ht')
 exact⟨cs,fuel,p,hv,hd⟩
theorem Br(s:ByteArray):str s.data.toList= .string s:=by
 show Value.string ⟨s.data.toList.toArray⟩=_
 rw[Array.toArray_toList]
theorem uk{H:Type}{enc:TypeId×Value→H}{P:Program}{W:World}{base fuel:Nat}{sp:Nat→Bool}{held:Bool}{TE:TypeId}{cs:List Value}{f0 f1:Field}{l:List UInt8}{n:Int}{p:List MemPlace}
 (ht:P.underlying TE=some (.struct #[f0,f1])) (o0:f0.offset=0) (o1:f1.offset=1) (c0:P.cellsOf f0.type=1) (c1:P.cellsOf f1.type=1) (cT:P.cellsOf TE=2) (h0:P.underlying f0.type=some .string) (h1:P.underlying f1.type=some (.int .i64))
 (h:DataW.trod enc P W base sp held fuel TE cs=some (.agg [.lit (.string l),.lit (.int .i64 n)],p)):cs=[str l,.int .i64 n]:=by
 obtain⟨y0,y1,m,e,hl,g0,g1⟩:=Go.ChangeShapes.trod_struct2 ht h
 rw[o0,c0] at g0
 rw[o1,c1] at g1
 rw[cT] at hl
 match cs,hl with
 | [u,v],_=>
   obtain⟨s,es,ey,_⟩:=DataW.trod_string h0 g0
   obtain⟨k,ek,ez,_⟩:=DataW.trod_int h1 g1
   have es:[u]=[Value.string s]:=es
   have ek:[v]=[Value.int .i64 k]:=ek
   cases es;cases ek
   rw[ey,ez] at e
   simp only[Prod.mk.injEq,DataW.agg.injEq,List.cons.injEq,DataW.lit.injEq,Lit.string.injEq,Lit.int.injEq,true_and,and_true] at e
   obtain⟨⟨rfl,rfl⟩,_⟩:=e
   rw[Br]
theorem qm{H:Type}{enc:TypeId×Value→H}{C:Checked}{os:Os}{f:FuncId}{fn:Func}{s:ChangeSpec}{conds:List PathCond}{apart fresh handsOn again:Bool}{laid:List (String×DataW Unit)}
 (own:ownKnob C.prog.godebug=none) (started:os.Started) (noInit:C.prog.inits.idxOf? f=none) (hfn:C.prog.funcs[f]? =some fn)
 (witness:∃ (w:World) (tape:Tape) (i:Input),w.os=os∧(w.forCall tape i).Shaped C.prog∧i.vars=[]∧Input.okWide C.prog (w.forCall tape i) .any w.heap.size f i∧
  ((s.pre enc C.prog fn conds apart (w.forCall tape i).memory i.args∧laidMetH C.prog laid (w.forCall tape i).memory)∧sizedMet enc C.prog fn (OpenSpec.ofChange s) apart (w.forCall tape i).memory i.args)∧({}:Assume).holds C.prog (lone (Frame.enter C.prog f i.args .normal) [] (w.forCall tape i)))
 (contract:∀ (W:World) (base:Nat) (args:Array Value) (ds gs:List (DataW H)) (before:List MemPlace),(∀ (j:Nat) t v,fn.params[j]? =some t→args[j]? =some v→Value.okWide C.prog W .any base t v)→
  DataW.Whole enc C.prog fn.params.toList s.vars apart W args.toList ds gs before→conds.all (PathCond.test C.prog ⟨fn.params.toList,ds,s.plain.varTypes C.prog,gs⟩)=true→laidMetH C.prog laid W→W.ShapedOpen C.prog→
  Calls C.prog f args W fun e W'=>∃ v,e= .returned v∧s.post enc C.prog fn apart fresh handsOn again W args v W'):
 ReturnsInHanded {} C os f .any (fun w args=>(s.pre enc C.prog fn conds apart w args∧laidMetH C.prog laid w)∧sizedMet enc C.prog fn (OpenSpec.ofChange s) apart w args) (s.post enc C.prog fn apart fresh handsOn again):=by
 refine returnsInHanded_of_calls own started noInit witness ?_
 intro w tape i _ hsh _ hok hpre _
 obtain⟨_,_,_,fn',hfn',_,_,_,_,hval⟩:=hok
 obtain rfl:fn'=fn:=Option.some.inj (hfn'.symm.trans hfn)
 obtain⟨⟨⟨ds,gs,before,hw,hc⟩,hx⟩,hz⟩:=hpre
 refine(contract (w.forCall tape i) w.heap.size i.args ds gs before hval (DataW.Whole.of_heap (w':=w.forCall tape i) (by rfl) hw) hc (laidMetH.of_heap (by rfl) hx) hsh).mono fun e W' ⟨v,he,hp⟩=> ?_
 subst he
 exact ChangeSpec.post_blind hp
def yO{H:Type}(k:Nat):DataW H:= .agg [.lit (.string (fw k)),.lit (.int .i64 (fm k))]
set_option maxRecDepth 100000 in
theorem CL{W:World}{r:List (String×DataW Unit)}(h:laidMet Tryz.prog (("tumulus/script.forms",Rows.laid_tumulus_script_forms)::r) W):FG W:=by
 obtain⟨cs,fuel,p,hv,hd⟩:=pE (g:=1) (t:=62) h (by kernel_rfl) (by kernel_rfl)
 obtain⟨xs,m,_,ex,_,hxl,hel⟩:=DataW.trod_array underlying62 hd
 have em:xs.map (·.1)=(List.range 18).map yO:=(DataW.agg.inj (Prod.mk.inj ex).1).symm.trans (by kernel_rfl)
 have c2:Tryz.prog.cellsOf 61=2:=by kernel_rfl
 have each:∀ i,i<18→(cs.toList.drop (i*2)).take 2=[str (fw i),i64 (fm i)]:=fun i hi=>by
  have h1:=hel i hi
  rw[c2,List.getElem?_eq_getElem (by omega)] at h1
  have h2:(xs[i]'(by omega)).1=yO i:=by
   have:=congrArg (fun l=>l[i]?) em
   simp only[List.getElem?_map,List.getElem?_eq_getElem (show i<xs.length by omega),List.getElem?_range hi,Option.map_some,Option.some.injEq] at this
   exact this
  rw[show xs[i]'(by omega)=(yO i,(xs[i]'(by omega)).2) from Prod.ext h2 rfl] at h1
  exact uk underlying61 aa aa (by kernel_rfl) (by kernel_rfl) (by kernel_rfl) underlying9 underlying3 h1
 refine⟨fun i hi=>⟨_,_,rfl,rfl,fun j hj=> ?_⟩⟩
 have h1:=each (j / 2) (by omega)
 have h2:=lV (j / 2) (by omega)
 have h3:=congrArg (fun l=>l[j%2]?) (h1.trans h2.symm)
 simp only[List.getElem?_take,List.getElem?_drop,if_pos (show j%2<2 by omega),show j / 2*2+j%2=j by omega] at h3
 rw[←h3,show 0+(i*36+j)=j by omega]
 exact(World.var?_cell (by kernel_rfl) hv j).trans (by simp)
set_option maxRecDepth 100000 in
theorem CB{W:World}{r:List (String×DataW Unit)}(hs:W.ShapedOpen Tryz.prog)(h:laidMet Tryz.prog (("math/bits.deBruijn32tab",Rows.laid_math_bits_deBruijn32tab)::("math/bits.deBruijn64tab",Rows.laid_math_bits_deBruijn64tab)::("internal/strconv.uint64pow10",Rows.laid_internal_strconv_uint64pow10)::("unicode/utf8.acceptRanges",Rows.laid_unicode_utf8_acceptRanges)::("strconv.ErrRange",Rows.laid_strconv_ErrRange)::("strconv.ErrSyntax",Rows.laid_strconv_ErrSyntax)::r) W):GL W:=by
 have h2:=h.tail.tail
 have h4:=h2.tail.tail
 have cell:∀ {nm:String} {d d2:DataW Unit} {r:List (String×DataW Unit)} {g ti:Nat},laidMet Tryz.prog ((nm,.iface "*errors.errorString" d)::r) W→Tryz.prog.globalNamed nm=some g→(Tryz.prog.globals[g]?).map (·.type)=some ti→ti=76→∃ te pe,W.cell? ⟨g,0,none⟩=some (.iface te pe):=by
  intro nm d d2 r g ti h hg ht e
  subst e
  obtain⟨cs,fuel,p,hv,hd⟩:=pE h hg ht
  obtain⟨_,u,v,e,_⟩:=iface_of_trod underlying76 hd
  refine⟨u,v,?_⟩
  rw[World.var?_cell hg hv 0, ←Array.getElem?_toList,e];rfl
 refine⟨Lib.tabIs_of_head (g:=2) (by kernel_rfl) (by kernel_rfl) underlying181 underlying25 (by kernel_rfl) (by kernel_rfl) (show laidMet Tryz.prog (("internal/strconv.uint64pow10",Lib.tabData .u64 Lib.pow10Tab)::_) W from h2),?_,cell (g:=6) (d2:= .nil) h4.tail (by kernel_rfl) (by kernel_rfl) aa,cell (g:=7) (d2:= .nil) h4 (by kernel_rfl) (by kernel_rfl) aa⟩
 exact cell_of_shapedOpen_int (g:=3) (zero:= #[.int .i64 0]) hs (by decide+kernel) (by kernel_rfl) (by kernel_rfl) (by kernel_rfl) (by kernel_rfl) underlying3
theorem yC{B:World}{Fr:List HP}{sv:Value}{rs:List CR}{w:World}(h:Holds B (ig 32 2 crE 0 (sv,rs)::Fr) w):∃ q cap,sv= .slice q rs.length cap:=by
 rcases eu h with ⟨e1,e2,_⟩ | ⟨bd,pre,rest,k,_,e,_⟩
 ·exact⟨none,0,by rw[e2,e1];rfl⟩
 ·exact⟨_,_,e⟩
theorem p5(c:UInt8):∀ (s:List UInt8) (n:Nat),iP n (s++[c])=(iP n s).bind fun m=>iP m [c]
 | [],n=>rfl
 | d::t,n=>by
   rw[List.cons_append]
   unfold iP
   split
   ·rfl
   ·exact p5 c t _
theorem mV{d:Nat}(h:d<10):(UInt8.ofNat (48+d)).toNat=48+d:=by
 rw[UInt8.toNat_ofNat_of_lt' (by show 48+d<256;omega)]
theorem zi(u:Nat):u<18446744073709551616→iP 0 (Lib.decDigits u)=some u:=by
 induction u using Nat.strongRecOn with
 | _ u ih=>
   intro h
   by_cases h1:u<10
   ·rw[ic h1]
    unfold iP
    rw[mV h1,if_neg (by omega)]
    unfold iP
    congr 1
    omega
   ·rw[oD h1,p5,ih (u / 10) (by omega) (by omega)]
    show iP (u / 10) [_]=_
    unfold iP
    rw[mV (Nat.mod_lt _ (by decide)),if_neg (by omega)]
    unfold iP
    congr 1
    omega
theorem zk(u:Nat):∀ x∈Lib.decDigits u,48≤x.toNat∧x.toNat≤57:=by
 induction u using Nat.strongRecOn with
 | _ u ih=>
   intro x hx
   by_cases h1:u<10
   ·rw[ic h1] at hx
    rw[List.mem_singleton.1 hx,mV h1]
    omega
   ·rw[oD h1] at hx
    rcases List.mem_append.1 hx with hx | hx
    ·exact ih (u / 10) (by omega) x hx
    ·rw[List.mem_singleton.1 hx,mV (Nat.mod_lt _ (by decide))]
     have:=Nat.mod_lt u (show 0<10 by decide)
     omega
theorem BK{u:Nat}(h:u<18446744073709551616):num (Lib.decDigits u)=some u:=by
 rw[←qV]
 unfold B9
 have hl:=oC u (by omega)
 rw[if_neg,zi u h]
 rintro(h1 | h1 | ⟨h1,h2⟩)
 ·exact zj u h1
 ·omega
 ·by_cases hz:1≤u
  ·exact vQ u hz h1
  ·obtain rfl:u=0:=by omega
   rw[ic (by decide)] at h2
   simp at h2
abbrev ddI(n:Int):List UInt8:=Lib.decDigits n.toNat
theorem rS:∀ (ns:List Int),(∀ n∈ns,0≤n∧n<18446744073709551616)→gS (ns.map ddI)=some ns
 | [],_=>rfl
 | n::t,h=>by
   have h1:=h n (List.mem_cons_self ..)
   have h2:=rS t fun m hm=>h m (List.mem_cons_of_mem _ hm)
   simp only[List.map_cons,gS]
   rw[BK (by omega),h2]
   simp only[Option.map_some]
   rw[Int.toNat_of_nonneg h1.1]
abbrev Bla(l:List UInt8):Prop:=∀ x∈l,pc x=true
abbrev Sol(l:List UInt8):Prop:=∀ x∈l,pc x=false
theorem tD:∀ {b t:List UInt8},Bla b→tok (b++t) none=tok t none
 | [],t,_=>rfl
 | x::b,t,h=>by
   rw[List.cons_append,tok,if_pos (h x (List.mem_cons_self ..))]
   exact tD fun y hy=>h y (List.mem_cons_of_mem _ hy)
theorem uQ{b t c:List UInt8}(hb:Bla b)(hn:b≠[]):tok (b++t) (some c)=c::tok t none:=by
 cases b with
 | nil=>exact absurd aa hn
 | cons x b=>
   rw[List.cons_append,tok,if_pos (hb x (List.mem_cons_self ..))]
   rw[tD fun y hy=>hb y (List.mem_cons_of_mem _ hy)]
theorem zQ{b c:List UInt8}(hb:Bla b):tok b (some c)=[c]:=by
 cases b with
 | nil=>rfl
 | cons x b=>
   have:=uQ (t:=[]) (c:=c) hb (by simp)
   rw[List.append_nil] at this
   rw[this];rfl
theorem uP:∀ {w t c:List UInt8},Sol w→tok (w++t) (some c)=tok t (some (c++w))
 | [],t,c,_=>by simp
 | x::w,t,c,h=>by
   rw[List.cons_append,tok,if_neg (by rw[h x (List.mem_cons_self ..)];decide),uP fun y hy=>h y (List.mem_cons_of_mem _ hy)]
   simp
theorem xD{w t:List UInt8}(h:Sol w)(hn:w≠[]):tok (w++t) none=tok t (some w):=by
 cases w with
 | nil=>exact absurd aa hn
 | cons x w=>
   rw[List.cons_append,tok,if_neg (by rw[h x (List.mem_cons_self ..)];decide),uP fun y hy=>h y (List.mem_cons_of_mem _ hy)]
   simp
theorem Cb(n:Int):Sol (ddI n):=fun x hx=>by
 have h:=zk _ x hx
 unfold pc
 simp only[Bool.or_eq_false_iff,beq_eq_false_iff_ne,ne_eq]
 constructor<;>rintro rfl<;>revert h<;>decide
theorem rm{sep tl:List UInt8}(hs:Bla sep)(hn:sep≠[])(ht:Bla tl):∀ (ns:List Int) (c:List UInt8),tok ((ns.flatMap fun n=>sep++ddI n)++tl) (some c)=c::ns.map ddI
 | [],c=>zQ ht
 | n::t,c=>by
   rw[List.flatMap_cons,List.append_assoc,List.append_assoc,uQ hs hn,xD (Cb n) (zj _),rm hs hn ht t]
   rfl
abbrev Cal(l:List UInt8):Prop:=∀ x∈l,x≠10∧x≠35
theorem Cal.app{a b:List UInt8}(ha:Cal a)(hb:Cal b):Cal (a++b):=fun x hx=>by
 rcases List.mem_append.1 hx with h | h
 ·exact ha x h
 ·exact hb x h
theorem AQ{a b:List UInt8}(ha:Cal a):dm (a++b)=a++dm b:=by
 unfold dm
 rw[List.takeWhile_append_of_pos fun x hx=>by simpa using(ha x hx).2]
theorem Cc(n:Int):Cal (ddI n):=fun x hx=>by
 have h:=zk _ x hx
 constructor<;>rintro rfl<;>revert h<;>decide
theorem yf{sep:List UInt8}(hs:Cal sep)(ns:List Int):Cal (ns.flatMap fun n=>sep++ddI n):=fun x hx=>by
 obtain⟨n,_,h⟩:=List.mem_flatMap.1 hx
 exact(Cal.app hs (Cc n)) x h
theorem uh:∀ k,k<18→((fw k).all fun x=> !pc x&&(x !=10&&x !=35))=true∧fw k≠[]:=by decide
theorem BW{k:Nat}(h:k<18):Sol (fw k):=fun x hx=>by
 have:=List.all_eq_true.1 (uh k h).1 x hx
 simp only[Bool.and_eq_true,Bool.not_eq_true'] at this
 exact this.1
theorem BY{k:Nat}(h:k<18):Cal (fw k):=fun x hx=>by
 have:=List.all_eq_true.1 (uh k h).1 x hx
 simp only[Bool.and_eq_true,bne_iff_ne] at this
 exact this.2
theorem Ai:∀ k,k<18→jR (fw k)=some (k,fm k):=by decide
structure oU(l:List UInt8)(o:Option Cmd):Prop where
 nl:∀ x∈l,x≠10
 p:(o=none∧tok (dm l) none=[])∨∃ c,o=some c∧tok (dm l) none≠[]∧cI (tok (dm l) none)=(c,0)
theorem BL{k:Nat}(hk:k<18){ns:List Int}(hl:ns.length=fm k)(hb:∀ n∈ns,0≤n∧n<18446744073709551616){pre sep tl:List UInt8}(hp:Bla pre)(hp2:Cal pre)(hs:Bla sep)(hs2:Cal sep)(hn:sep≠[])(ht:Bla (dm tl))(ht2:∀ x∈tl,x≠10):
 oU (pre++fw k++(ns.flatMap fun n=>sep++ddI n)++tl) (some ((k:Int),ns)):=by
 have hc:Cal (pre++fw k++ns.flatMap fun n=>sep++ddI n):=(hp2.app (BY hk)).app (yf hs2 ns)
 have ht3:tok (dm (pre++fw k++(ns.flatMap fun n=>sep++ddI n)++tl)) none=fw k::ns.map ddI:=by
  rw[AQ hc,List.append_assoc,List.append_assoc,tD hp,xD (BW hk) (uh k hk).2,rm hs hn ht]
 refine⟨fun x hx=> ?_,.inr ⟨_,rfl,by rw[ht3];simp,?_⟩⟩
 ·rcases List.mem_append.1 hx with h | h
  ·exact(hc x h).1
  ·exact ht2 x h
 ·rw[ht3]
  unfold cI
  rw[show(fw k::ns.map ddI).getD 0 []=fw k from rfl,Ai k hk]
  simp only
  rw[if_neg (by simp[hl]),show(fw k::ns.map ddI).drop 1=ns.map ddI from rfl,rS ns hb]
def fF(L:List (List UInt8)):List UInt8:=L.flatMap fun l=>l++[10]
theorem nk(r:List UInt8):∀ (L:List (List UInt8)),(∀ l∈L,∀ x∈l,x≠10)→spl 10 (fF L++r)=L++spl 10 r
 | [],_=>rfl
 | l::L,h=>by
   have h1:=nk r L fun a ha=>h a (List.mem_cons_of_mem _ ha)
   have e:fF (l::L)++r=l++(10::(fF L++r)):=by simp[fF]
   rw[e,mK _ _ (h l (List.mem_cons_self ..))]
   rw[show spl 10 (10::(fF L++r))=[]::spl 10 (fF L++r) by rw[spl,if_pos rfl],h1]
   simp
theorem vq{α ι:Type}(st:α→ι→Bool×ι):∀ (a b:List α) (x:ι),(itl st a x).1=true→itl st (a++b) x=itl st b (itl st a x).2
 | [],b,x,_=>rfl
 | p::a,b,x,h=>by
   simp only[List.cons_append,itl] at h ⊢
   split at h
   ·rename_i h1;rw[if_pos h1,if_pos h1];exact vq st a b _ h
   ·cases h
abbrev LO:=List UInt8×Option Cmd
theorem kq:∀ (L:List LO) (x:PSt),(∀ p∈L,oU p.1 p.2)→0≤x.1→x.1+L.length≤1000000→x.2.1.length+(L.filterMap Prod.snd).length≤400→
 itl stP (L.map Prod.fst) x=(true,x.1+L.length,x.2.1++L.filterMap Prod.snd,x.2.2)
 | [],x,_,_,_,_=>by simp[itl]
 | (l,o)::L,x,h,h0,h1,h2=>by
   have hl:=h _ (List.mem_cons_self ..)
   have hw:IntKind.i64.wrap (x.1+1)=x.1+1:=gp (by simp only[List.length_cons] at h1;omega)
   rw[List.map_cons,itl]
   simp only[List.length_cons] at h1
   rcases hl.p with ⟨e1,e2⟩ | ⟨c,e1,e2,e3⟩
   ·simp only at e1 e2
    subst e1
    have hs:stP l x=(true,x.1+1,x.2.1,x.2.2):=by unfold stP;simp only[e2,hw,if_true]
    rw[hs,if_pos rfl,kq L _ (fun p hp=>h p (List.mem_cons_of_mem _ hp)) (by simp only;omega) (by simp only;omega) (by simpa using h2)]
    simp only[List.length_cons,List.filterMap_cons,Prod.mk.injEq,true_and,and_true]
    omega
   ·simp only at e1 e2 e3
    subst e1
    simp only[List.filterMap_cons,List.length_cons] at h2
    have hs:stP l x=(true,x.1+1,x.2.1++[c],x.2.2):=by
     unfold stP
     simp only[hw]
     rw[if_neg e2,if_neg (by omega),if_neg (by rw[e3];simp),e3]
    rw[hs,if_pos rfl,kq L _ (fun p hp=>h p (List.mem_cons_of_mem _ hp)) (by simp only;omega) (by simp only;omega) (by simp only[List.length_append,List.length_cons,List.length_nil];omega)]
    simp only[List.length_cons,List.filterMap_cons,Prod.mk.injEq,true_and,List.append_assoc,List.cons_append,List.nil_append,and_true]
    omega
theorem se:oU [] none:=⟨by decide,.inl ⟨rfl,rfl⟩⟩
theorem nM{L:List LO}(h:∀ p∈L,oU p.1 p.2)(hl:(fF (L.map Prod.fst)).length≤65536)(hn:(L.filterMap Prod.snd).length≤400)(hL:L.length≤100000):cS (fF (L.map Prod.fst))=(L.filterMap Prod.snd,0,0):=by
 have e:=nk [] (L.map Prod.fst) fun l hl x hx=>by
  obtain⟨p,hp,rfl⟩:=List.mem_map.1 hl
  exact(h p hp).nl x hx
 rw[List.append_nil] at e
 have e2:spl 10 (fF (L.map Prod.fst))=(L++[([],none)]).map Prod.fst:=by rw[e];simp[spl]
 have e3:=kq (L++[([],none)]) p0 (fun p hp=>by
  rcases List.mem_append.1 hp with h1 | h1
  ·exact h p h1
  ·rw[List.mem_singleton.1 h1];exact se) (by decide) (by simp[p0];omega) (by simpa [p0] using hn)
 unfold cS
 rw[if_neg (by omega),e2,e3]
 simp[p0]
namespace scriptMany
theorem CQ:(Rows.scriptManyRow.inPlace==Tryz.pinned.checked.prog.inPlace 5)=true:=by kernel_rfl
theorem CP:(Rows.scriptManyRow.unfollowed==Tryz.pinned.checked.prog.unfollowed 5)=true:=by kernel_rfl
theorem CO:(Rows.scriptManyRow.recurses==Tryz.pinned.checked.prog.recurses 5)=true:=by kernel_rfl
theorem CN:(Rows.scriptManyRow.named==Tryz.pinned.checked.prog.varsNamed 5)=true:=by kernel_rfl
theorem CM:joinedFacts Tryz.pinned.checked.prog 5 Tryz.f5 Rows.scriptManySpec Rows.scriptManyRow=true:=by
 unfold joinedFacts
 rw[CQ,CP,CO,CN]
 kernel_rfl
theorem named:Tryz.pinned.checked.prog.funcNamed Rows.scriptManyRow.func=some 5:=by kernel_rfl
theorem C5:Tryz.f5.isInstance Tryz.pinned.checked.prog Rows.scriptManyRow.origin Rows.scriptManyRow.targs:=of_decide_eq_true (by kernel_rfl)
theorem wrap:Tryz.f5.isWrapper Tryz.pinned.checked.prog Rows.scriptManyRow.wrapper Rows.scriptManyRow.mainSum:=by unfold Func.isWrapper;first | (rw[if_pos (by decide+kernel)];kernel_rfl) | (rw[if_neg (by decide+kernel)];exact⟨rfl,rfl⟩)
end scriptMany
end Go.Proofs.YtoakdoeajpjgkaaGreatDoor
