/- Part of a law's texts. Conditions: none. -/
import Derived.Test.YtipdhkmphngmoaaGreatDoorQL19Fd
import Derived.Test.YtipdhkmphngmoaaGreatDoorRows
open Go.Proofs.Tryz
set_option linter.all false
namespace Go.Proofs.YtipdhkmphngmoaaGreatDoor
open Go
theorem bi{P:Program}{S f sz:Nat}{fs:Array Field}(t off:Nat)(hS:∀ w,(underlying S).run P w= .ok (.struct fs) w)(hf:(fs[f]?).map (fun fd=>(fd.type,fd.offset))=some (t,off))(hz:∀ w,(sizeOf t).run P w= .ok sz w)(h0:sz≠0)(b k:Nat)(w:World):
 (Instr.fieldAt S (.pointer (some ⟨b,k,none⟩)) f).run P w= .ok (.pointer (some ⟨b,k+off,none⟩)) w:=by
 have ha:(⟨b,k,none⟩:Addr).add off=⟨b,k+off,none⟩:=by
  unfold Addr.add;split
  ·rename_i e;rw[e];rfl
  ·rfl
 cases e:fs[f]? with
 | none=>rw[e] at hf;cases hf
 | some fd=>
   rw[e] at hf
   simp only[Option.map_some,Option.some.injEq,Prod.mk.injEq] at hf
   obtain⟨h1,h2⟩:=hf
   subst h1;subst h2
   simp[Instr.fieldAt,hS,e,Instr.sureAddr,fieldPlace,hz,h0,ha]
theorem Tryz.mixed:Tryz.prog.follows .mixedOrders=true:=by kernel_rfl
theorem jO:∀ b k w,(Instr.fieldAt 33 (.pointer (some ⟨b,k,none⟩)) 0).run Tryz.prog w= .ok (.pointer (some ⟨b,k+0,none⟩)) w:=bi 31 0 runUnderlying33 rfl sizeOf31 (by decide)
theorem iL:∀ b k w,(Instr.fieldAt 33 (.pointer (some ⟨b,k,none⟩)) 1).run Tryz.prog w= .ok (.pointer (some ⟨b,k+1,none⟩)) w:=bi 22 1 runUnderlying33 rfl sizeOf22 (by decide)
theorem jN:∀ b k w,(Instr.fieldAt 39 (.pointer (some ⟨b,k,none⟩)) 0).run Tryz.prog w= .ok (.pointer (some ⟨b,k+0,none⟩)) w:=bi 3 0 runUnderlying39 rfl sizeOf3 (by decide)
theorem gc:∀ b k w,(Instr.fieldAt 39 (.pointer (some ⟨b,k,none⟩)) 1).run Tryz.prog w= .ok (.pointer (some ⟨b,k+1,none⟩)) w:=bi 3 1 runUnderlying39 rfl sizeOf3 (by decide)
theorem gD:∀ b k w,(Instr.fieldAt 39 (.pointer (some ⟨b,k,none⟩)) 2).run Tryz.prog w= .ok (.pointer (some ⟨b,k+2,none⟩)) w:=bi 3 2 runUnderlying39 rfl sizeOf3 (by decide)
theorem BH:∀ b k w,(Instr.fieldAt 48 (.pointer (some ⟨b,k,none⟩)) 0).run Tryz.prog w= .ok (.pointer (some ⟨b,k+0,none⟩)) w:=bi 46 0 runUnderlying48 rfl sizeOf46 (by decide)
theorem BG:∀ b k w,(Instr.fieldAt 48 (.pointer (some ⟨b,k,none⟩)) 1).run Tryz.prog w= .ok (.pointer (some ⟨b,k+1,none⟩)) w:=bi 46 1 runUnderlying48 rfl sizeOf46 (by decide)
theorem BF:∀ b k w,(Instr.fieldAt 48 (.pointer (some ⟨b,k,none⟩)) 2).run Tryz.prog w= .ok (.pointer (some ⟨b,k+2,none⟩)) w:=bi 46 2 runUnderlying48 rfl sizeOf46 (by decide)
theorem iK:∀ b k w,(Instr.fieldAt 63 (.pointer (some ⟨b,k,none⟩)) 0).run Tryz.prog w= .ok (.pointer (some ⟨b,k+0,none⟩)) w:=bi 3 0 runUnderlying63 rfl sizeOf3 (by decide)
theorem gC:∀ b k w,(Instr.fieldAt 63 (.pointer (some ⟨b,k,none⟩)) 1).run Tryz.prog w= .ok (.pointer (some ⟨b,k+1,none⟩)) w:=bi 3 1 runUnderlying63 rfl sizeOf3 (by decide)
theorem wG:∀ b k w,(Instr.fieldAt 67 (.pointer (some ⟨b,k,none⟩)) 0).run Tryz.prog w= .ok (.pointer (some ⟨b,k+0,none⟩)) w:=bi 3 0 runUnderlying67 rfl sizeOf3 (by decide)
theorem wF:∀ b k w,(Instr.fieldAt 67 (.pointer (some ⟨b,k,none⟩)) 1).run Tryz.prog w= .ok (.pointer (some ⟨b,k+1,none⟩)) w:=bi 3 1 runUnderlying67 rfl sizeOf3 (by decide)
theorem wE:∀ b k w,(Instr.fieldAt 67 (.pointer (some ⟨b,k,none⟩)) 2).run Tryz.prog w= .ok (.pointer (some ⟨b,k+2,none⟩)) w:=bi 3 2 runUnderlying67 rfl sizeOf3 (by decide)
theorem wD:∀ b k w,(Instr.fieldAt 67 (.pointer (some ⟨b,k,none⟩)) 3).run Tryz.prog w= .ok (.pointer (some ⟨b,k+3,none⟩)) w:=bi 3 3 runUnderlying67 rfl sizeOf3 (by decide)
theorem wC:∀ b k w,(Instr.fieldAt 67 (.pointer (some ⟨b,k,none⟩)) 4).run Tryz.prog w= .ok (.pointer (some ⟨b,k+4,none⟩)) w:=bi 4 4 runUnderlying67 rfl sizeOf4 (by decide)
theorem BE:∀ b k w,(Instr.fieldAt 75 (.pointer (some ⟨b,k,none⟩)) 1).run Tryz.prog w= .ok (.pointer (some ⟨b,k+3,none⟩)) w:=bi 71 3 runUnderlying75 rfl sizeOf71 (by decide)
theorem BD:∀ b k w,(Instr.fieldAt 75 (.pointer (some ⟨b,k,none⟩)) 2).run Tryz.prog w= .ok (.pointer (some ⟨b,k+4,none⟩)) w:=bi 3 4 runUnderlying75 rfl sizeOf3 (by decide)
theorem wB:∀ b k w,(Instr.fieldAt 75 (.pointer (some ⟨b,k,none⟩)) 3).run Tryz.prog w= .ok (.pointer (some ⟨b,k+5,none⟩)) w:=bi 71 5 runUnderlying75 rfl sizeOf71 (by decide)
theorem BC:∀ b k w,(Instr.fieldAt 75 (.pointer (some ⟨b,k,none⟩)) 4).run Tryz.prog w= .ok (.pointer (some ⟨b,k+6,none⟩)) w:=bi 4 6 runUnderlying75 rfl sizeOf4 (by decide)
theorem BB:∀ b k w,(Instr.fieldAt 75 (.pointer (some ⟨b,k,none⟩)) 5).run Tryz.prog w= .ok (.pointer (some ⟨b,k+7,none⟩)) w:=bi 72 7 runUnderlying75 rfl sizeOf72 (by decide)
theorem jg:∀ b k w,(Instr.fieldAt 109 (.pointer (some ⟨b,k,none⟩)) 0).run Tryz.prog w= .ok (.pointer (some ⟨b,k+0,none⟩)) w:=bi 53 0 runUnderlying109 rfl sizeOf53 (by decide)
theorem kB:∀ b k w,(Instr.fieldAt 109 (.pointer (some ⟨b,k,none⟩)) 1).run Tryz.prog w= .ok (.pointer (some ⟨b,k+1,none⟩)) w:=bi 54 1 runUnderlying109 rfl sizeOf54 (by decide)
theorem tJ:∀ b k w,(Instr.fieldAt 109 (.pointer (some ⟨b,k,none⟩)) 2).run Tryz.prog w= .ok (.pointer (some ⟨b,k+2,none⟩)) w:=bi 24 2 runUnderlying109 rfl sizeOf24 (by decide)
theorem eQ:∀ b k w,(Instr.fieldAt 123 (.pointer (some ⟨b,k,none⟩)) 0).run Tryz.prog w= .ok (.pointer (some ⟨b,k+0,none⟩)) w:=bi 53 0 runUnderlying123 rfl sizeOf53 (by decide)
theorem c6:∀ b k w,(Instr.fieldAt 123 (.pointer (some ⟨b,k,none⟩)) 1).run Tryz.prog w= .ok (.pointer (some ⟨b,k+1,none⟩)) w:=bi 39 1 runUnderlying123 rfl sizeOf39 (by decide)
theorem cO:∀ b k w,(Instr.fieldAt 123 (.pointer (some ⟨b,k,none⟩)) 2).run Tryz.prog w= .ok (.pointer (some ⟨b,k+4,none⟩)) w:=bi 119 4 runUnderlying123 rfl sizeOf119 (by decide)
theorem eP:∀ b k w,(Instr.fieldAt 123 (.pointer (some ⟨b,k,none⟩)) 3).run Tryz.prog w= .ok (.pointer (some ⟨b,k+5,none⟩)) w:=bi 120 5 runUnderlying123 rfl sizeOf120 (by decide)
theorem fB:∀ b k w,(Instr.fieldAt 123 (.pointer (some ⟨b,k,none⟩)) 4).run Tryz.prog w= .ok (.pointer (some ⟨b,k+6,none⟩)) w:=bi 121 6 runUnderlying123 rfl sizeOf121 (by decide)
theorem iy:∀ b k w,(Instr.fieldAt 125 (.pointer (some ⟨b,k,none⟩)) 0).run Tryz.prog w= .ok (.pointer (some ⟨b,k+0,none⟩)) w:=bi 3 0 runUnderlying125 rfl sizeOf3 (by decide)
theorem dM:∀ b k w,(Instr.fieldAt 125 (.pointer (some ⟨b,k,none⟩)) 1).run Tryz.prog w= .ok (.pointer (some ⟨b,k+1,none⟩)) w:=bi 3 1 runUnderlying125 rfl sizeOf3 (by decide)
theorem eO:∀ b k w,(Instr.fieldAt 125 (.pointer (some ⟨b,k,none⟩)) 2).run Tryz.prog w= .ok (.pointer (some ⟨b,k+2,none⟩)) w:=bi 22 2 runUnderlying125 rfl sizeOf22 (by decide)
theorem zW:∀ b k w,(Instr.fieldAt 129 (.pointer (some ⟨b,k,none⟩)) 0).run Tryz.prog w= .ok (.pointer (some ⟨b,k+0,none⟩)) w:=bi 3 0 runUnderlying129 rfl sizeOf3 (by decide)
theorem zV:∀ b k w,(Instr.fieldAt 129 (.pointer (some ⟨b,k,none⟩)) 1).run Tryz.prog w= .ok (.pointer (some ⟨b,k+1,none⟩)) w:=bi 3 1 runUnderlying129 rfl sizeOf3 (by decide)
theorem eN:∀ b k w,(Instr.fieldAt 134 (.pointer (some ⟨b,k,none⟩)) 0).run Tryz.prog w= .ok (.pointer (some ⟨b,k+0,none⟩)) w:=bi 63 0 runUnderlying134 rfl sizeOf63 (by decide)
theorem kA:∀ b k w,(Instr.fieldAt 134 (.pointer (some ⟨b,k,none⟩)) 1).run Tryz.prog w= .ok (.pointer (some ⟨b,k+2,none⟩)) w:=bi 3 2 runUnderlying134 rfl sizeOf3 (by decide)
theorem ix:∀ b k w,(Instr.fieldAt 144 (.pointer (some ⟨b,k,none⟩)) 0).run Tryz.prog w= .ok (.pointer (some ⟨b,k+0,none⟩)) w:=bi 141 0 runUnderlying144 rfl sizeOf141 (by decide)
theorem kz:∀ b k w,(Instr.fieldAt 144 (.pointer (some ⟨b,k,none⟩)) 1).run Tryz.prog w= .ok (.pointer (some ⟨b,k+1,none⟩)) w:=bi 53 1 runUnderlying144 rfl sizeOf53 (by decide)
theorem zU:∀ b k w,(Instr.fieldAt 144 (.pointer (some ⟨b,k,none⟩)) 2).run Tryz.prog w= .ok (.pointer (some ⟨b,k+2,none⟩)) w:=bi 39 2 runUnderlying144 rfl sizeOf39 (by decide)
theorem dL:∀ b k w,(Instr.fieldAt 144 (.pointer (some ⟨b,k,none⟩)) 3).run Tryz.prog w= .ok (.pointer (some ⟨b,k+5,none⟩)) w:=bi 4 5 runUnderlying144 rfl sizeOf4 (by decide)
theorem mg:∀ b k w,(Instr.fieldAt 144 (.pointer (some ⟨b,k,none⟩)) 4).run Tryz.prog w= .ok (.pointer (some ⟨b,k+6,none⟩)) w:=bi 129 6 runUnderlying144 rfl sizeOf129 (by decide)
theorem mf:∀ b k w,(Instr.fieldAt 144 (.pointer (some ⟨b,k,none⟩)) 5).run Tryz.prog w= .ok (.pointer (some ⟨b,k+8,none⟩)) w:=bi 142 8 runUnderlying144 rfl sizeOf142 (by decide)
theorem jf:∀ b k w,(Instr.fieldAt 144 (.pointer (some ⟨b,k,none⟩)) 6).run Tryz.prog w= .ok (.pointer (some ⟨b,k+9,none⟩)) w:=bi 142 9 runUnderlying144 rfl sizeOf142 (by decide)
theorem me:∀ b k w,(Instr.fieldAt 161 (.pointer (some ⟨b,k,none⟩)) 0).run Tryz.prog w= .ok (.pointer (some ⟨b,k+0,none⟩)) w:=bi 106 0 runUnderlying161 rfl sizeOf106 (by decide)
theorem ge:∀ b k w,(Instr.fieldAt 161 (.pointer (some ⟨b,k,none⟩)) 1).run Tryz.prog w= .ok (.pointer (some ⟨b,k+1,none⟩)) w:=bi 22 1 runUnderlying161 rfl sizeOf22 (by decide)
theorem ky:∀ b k w,(Instr.fieldAt 161 (.pointer (some ⟨b,k,none⟩)) 2).run Tryz.prog w= .ok (.pointer (some ⟨b,k+2,none⟩)) w:=bi 22 2 runUnderlying161 rfl sizeOf22 (by decide)
theorem kx:∀ b k w,(Instr.fieldAt 161 (.pointer (some ⟨b,k,none⟩)) 3).run Tryz.prog w= .ok (.pointer (some ⟨b,k+3,none⟩)) w:=bi 159 3 runUnderlying161 rfl sizeOf159 (by decide)
theorem tI:∀ b k w,(Instr.fieldAt 170 (.pointer (some ⟨b,k,none⟩)) 0).run Tryz.prog w= .ok (.pointer (some ⟨b,k+0,none⟩)) w:=bi 3 0 runUnderlying170 rfl sizeOf3 (by decide)
theorem mc:∀ b k w,(Instr.fieldAt 170 (.pointer (some ⟨b,k,none⟩)) 1).run Tryz.prog w= .ok (.pointer (some ⟨b,k+1,none⟩)) w:=bi 3 1 runUnderlying170 rfl sizeOf3 (by decide)
theorem gQ:∀ b k w,(Instr.fieldAt 196 (.pointer (some ⟨b,k,none⟩)) 0).run Tryz.prog w= .ok (.pointer (some ⟨b,k+0,none⟩)) w:=bi 86 0 runUnderlying196 rfl sizeOf86 (by decide)
theorem kw:∀ b k w,(Instr.fieldAt 196 (.pointer (some ⟨b,k,none⟩)) 1).run Tryz.prog w= .ok (.pointer (some ⟨b,k+1,none⟩)) w:=bi 86 1 runUnderlying196 rfl sizeOf86 (by decide)
theorem kv:∀ b k w,(Instr.fieldAt 196 (.pointer (some ⟨b,k,none⟩)) 2).run Tryz.prog w= .ok (.pointer (some ⟨b,k+2,none⟩)) w:=bi 3 2 runUnderlying196 rfl sizeOf3 (by decide)
theorem cU:∀ b k w,(Instr.fieldAt 209 (.pointer (some ⟨b,k,none⟩)) 0).run Tryz.prog w= .ok (.pointer (some ⟨b,k+0,none⟩)) w:=bi 53 0 runUnderlying209 rfl sizeOf53 (by decide)
theorem ku:∀ b k w,(Instr.fieldAt 209 (.pointer (some ⟨b,k,none⟩)) 1).run Tryz.prog w= .ok (.pointer (some ⟨b,k+1,none⟩)) w:=bi 39 1 runUnderlying209 rfl sizeOf39 (by decide)
theorem je:∀ b k w,(Instr.fieldAt 209 (.pointer (some ⟨b,k,none⟩)) 2).run Tryz.prog w= .ok (.pointer (some ⟨b,k+4,none⟩)) w:=bi 24 4 runUnderlying209 rfl sizeOf24 (by decide)
theorem dw:∀ b k w,(Instr.fieldAt 209 (.pointer (some ⟨b,k,none⟩)) 3).run Tryz.prog w= .ok (.pointer (some ⟨b,k+5,none⟩)) w:=bi 3 5 runUnderlying209 rfl sizeOf3 (by decide)
theorem gP:∀ b k w,(Instr.fieldAt 212 (.pointer (some ⟨b,k,none⟩)) 0).run Tryz.prog w= .ok (.pointer (some ⟨b,k+0,none⟩)) w:=bi 53 0 runUnderlying212 rfl sizeOf53 (by decide)
theorem tH:∀ b k w,(Instr.fieldAt 212 (.pointer (some ⟨b,k,none⟩)) 1).run Tryz.prog w= .ok (.pointer (some ⟨b,k+1,none⟩)) w:=bi 39 1 runUnderlying212 rfl sizeOf39 (by decide)
theorem ma:∀ b k w,(Instr.fieldAt 212 (.pointer (some ⟨b,k,none⟩)) 2).run Tryz.prog w= .ok (.pointer (some ⟨b,k+4,none⟩)) w:=bi 125 4 runUnderlying212 rfl sizeOf125 (by decide)
theorem px:∀ b k w,(Instr.fieldAt 212 (.pointer (some ⟨b,k,none⟩)) 3).run Tryz.prog w= .ok (.pointer (some ⟨b,k+7,none⟩)) w:=bi 3 7 runUnderlying212 rfl sizeOf3 (by decide)
theorem jd:∀ b k w,(Instr.fieldAt 212 (.pointer (some ⟨b,k,none⟩)) 4).run Tryz.prog w= .ok (.pointer (some ⟨b,k+8,none⟩)) w:=bi 3 8 runUnderlying212 rfl sizeOf3 (by decide)
theorem iw:∀ b k w,(Instr.fieldAt 212 (.pointer (some ⟨b,k,none⟩)) 5).run Tryz.prog w= .ok (.pointer (some ⟨b,k+9,none⟩)) w:=bi 3 9 runUnderlying212 rfl sizeOf3 (by decide)
theorem l8:∀ b k w,(Instr.fieldAt 212 (.pointer (some ⟨b,k,none⟩)) 6).run Tryz.prog w= .ok (.pointer (some ⟨b,k+10,none⟩)) w:=bi 22 10 runUnderlying212 rfl sizeOf22 (by decide)
theorem l7:∀ b k w,(Instr.fieldAt 212 (.pointer (some ⟨b,k,none⟩)) 7).run Tryz.prog w= .ok (.pointer (some ⟨b,k+11,none⟩)) w:=bi 210 11 runUnderlying212 rfl sizeOf210 (by decide)
theorem iv:∀ b k w,(Instr.fieldAt 212 (.pointer (some ⟨b,k,none⟩)) 8).run Tryz.prog w= .ok (.pointer (some ⟨b,k+12,none⟩)) w:=bi 4 12 runUnderlying212 rfl sizeOf4 (by decide)
theorem tG:∀ b k w,(Instr.fieldAt 234 (.pointer (some ⟨b,k,none⟩)) 0).run Tryz.prog w= .ok (.pointer (some ⟨b,k+0,none⟩)) w:=bi 9 0 runUnderlying234 rfl sizeOf9 (by decide)
theorem zT:∀ b k w,(Instr.fieldAt 234 (.pointer (some ⟨b,k,none⟩)) 1).run Tryz.prog w= .ok (.pointer (some ⟨b,k+1,none⟩)) w:=bi 3 1 runUnderlying234 rfl sizeOf3 (by decide)
theorem zS:∀ b k w,(Instr.fieldAt 279 (.pointer (some ⟨b,k,none⟩)) 0).run Tryz.prog w= .ok (.pointer (some ⟨b,k+0,none⟩)) w:=bi 5 0 runUnderlying279 rfl sizeOf5 (by decide)
theorem zR:∀ b k w,(Instr.fieldAt 279 (.pointer (some ⟨b,k,none⟩)) 1).run Tryz.prog w= .ok (.pointer (some ⟨b,k+1,none⟩)) w:=bi 5 1 runUnderlying279 rfl sizeOf5 (by decide)
theorem yr:((Tryz.prog.info? 3).map fun i=>decide (i.bytes≤65536)&&decide (i.bytes≠0))=some true:=by kernel_rfl
theorem gh:((Tryz.prog.info? 24).map fun i=>decide (i.bytes≤65536)&&decide (i.bytes≠0))=some true:=by kernel_rfl
theorem Dt:((Tryz.prog.info? 33).map fun i=>decide (i.bytes≤65536)&&decide (i.bytes≠0))=some true:=by kernel_rfl
theorem Cl:((Tryz.prog.info? 134).map fun i=>decide (i.bytes≤65536)&&decide (i.bytes≠0))=some true:=by kernel_rfl
theorem Ck:((Tryz.prog.info? 284).map fun i=>decide (i.bytes≤65536)&&decide (i.bytes≠0))=some true:=by kernel_rfl
theorem rT(w:World):(Instr.build 33 #[]).run Tryz.prog w= .ok (.agg #[.int .i64 0,.slice none 0 0]) w:=by
 simp[Instr.build,Instr.fill,bA,zeroValue33,runUnderlying33,sizeOf22,sizeOf31]
theorem tZ(v0:Value)(h0:aN v0=true)(w:World):(Instr.build 33 #[(0,v0)]).run Tryz.prog w= .ok (.agg #[v0,.slice none 0 0]) w:=by
 simp[Instr.build,Instr.fill,bA,zeroValue33,runUnderlying33,sizeOf22,sizeOf31,aH h0]
theorem vg(v0:Value)(v1:Value)(h0:aN v0=true)(h1:aN v1=true)(w:World):(Instr.build 33 #[(0,v0),(1,v1)]).run Tryz.prog w= .ok (.agg #[v0,v1]) w:=by
 simp[Instr.build,Instr.fill,bA,zeroValue33,runUnderlying33,sizeOf22,sizeOf31,aH h0,aH h1]
theorem vf(w:World):(Instr.build 39 #[]).run Tryz.prog w= .ok (.agg #[.int .i64 0,.int .i64 0,.int .i64 0]) w:=by
 simp[Instr.build,Instr.fill,bA,zeroValue39,runUnderlying39,sizeOf3]
theorem cW(v0:Value)(v1:Value)(v2:Value)(h0:aN v0=true)(h1:aN v1=true)(h2:aN v2=true)(w:World):(Instr.build 39 #[(0,v0),(1,v1),(2,v2)]).run Tryz.prog w= .ok (.agg #[v0,v1,v2]) w:=by
 simp[Instr.build,Instr.fill,bA,zeroValue39,runUnderlying39,sizeOf3,aH h0,aH h1,aH h2]
theorem rS(v0:Value)(v1:Value)(v2:Value)(h0:aN v0=true)(h1:aN v1=true)(h2:aN v2=true)(w:World):(Instr.build 39 #[(1,v1),(0,v0),(2,v2)]).run Tryz.prog w= .ok (.agg #[v0,v1,v2]) w:=by
 simp[Instr.build,Instr.fill,bA,zeroValue39,runUnderlying39,sizeOf3,aH h1,aH h0,aH h2]
theorem jj(v2:Value)(h2:aN v2=true)(w:World):(Instr.build 48 #[(2,v2)]).run Tryz.prog w= .ok (.agg #[.int .u16 0,.int .u16 0,v2]) w:=by
 simp[Instr.build,Instr.fill,bA,zeroValue48,runUnderlying48,sizeOf46,aH h2]
theorem De(w:World):(Instr.build 63 #[]).run Tryz.prog w= .ok (.agg #[.int .i64 0,.int .i64 0]) w:=by
 simp[Instr.build,Instr.fill,bA,zeroValue63,runUnderlying63,sizeOf3]
theorem tY(v0:Value)(h0:aN v0=true)(w:World):(Instr.build 63 #[(0,v0)]).run Tryz.prog w= .ok (.agg #[v0,.int .i64 0]) w:=by
 simp[Instr.build,Instr.fill,bA,zeroValue63,runUnderlying63,sizeOf3,aH h0]
theorem lD(v0:Value)(v1:Value)(h0:aN v0=true)(h1:aN v1=true)(w:World):(Instr.build 63 #[(0,v0),(1,v1)]).run Tryz.prog w= .ok (.agg #[v0,v1]) w:=by
 simp[Instr.build,Instr.fill,bA,zeroValue63,runUnderlying63,sizeOf3,aH h0,aH h1]
theorem ve(v0:Value)(v1:Value)(h0:aN v0=true)(h1:aN v1=true)(w:World):(Instr.build 63 #[(1,v1),(0,v0)]).run Tryz.prog w= .ok (.agg #[v0,v1]) w:=by
 simp[Instr.build,Instr.fill,bA,zeroValue63,runUnderlying63,sizeOf3,aH h1,aH h0]
theorem mY(v0:Value)(v1:Value)(v2:Value)(v3:Value)(v4:Value)(h0:aN v0=true)(h1:aN v1=true)(h2:aN v2=true)(h3:aN v3=true)(h4:aN v4=true)(w:World):(Instr.build 67 #[(0,v0),(1,v1),(2,v2),(3,v3),(4,v4)]).run Tryz.prog w= .ok (.agg #[v0,v1,v2,v3,v4]) w:=by
 simp[Instr.build,Instr.fill,bA,zeroValue67,runUnderlying67,sizeOf3,sizeOf4,aH h0,aH h1,aH h2,aH h3,aH h4]
theorem rR(v0_0 v0_1 v0_2:Value)(v1:Value)(v8:Value)(h1:aN v1=true)(h8:aN v8=true)(w:World):(Instr.build 75 #[(0,.agg #[v0_0,v0_1,v0_2]),(1,v1),(8,v8)]).run Tryz.prog w= .ok (.agg #[v0_0,v0_1,v0_2,v1,.int .i64 0,.slice none 0 0,.bool false,.slice none 0 0,.slice none 0 0,.slice none 0 0,v8,.int .i64 0]) w:=by
 simp[Instr.build,Instr.fill,bA,zeroValue75,runUnderlying75,sizeOf3,sizeOf39,sizeOf4,sizeOf71,sizeOf72,sizeOf73,aH h1,aH h8]
theorem q6(v0:Value)(h0:aN v0=true)(w:World):(Instr.build 109 #[(0,v0)]).run Tryz.prog w= .ok (.agg #[v0,.pointer none,.int .u64 0]) w:=by
 simp[Instr.build,Instr.fill,bA,zeroValue109,runUnderlying109,sizeOf24,sizeOf53,sizeOf54,aH h0]
theorem nG(v0:Value)(v1_0 v1_1 v1_2:Value)(v2:Value)(v3:Value)(h0:aN v0=true)(h2:aN v2=true)(h3:aN v3=true)(w:World):(Instr.build 123 #[(0,v0),(1,.agg #[v1_0,v1_1,v1_2]),(2,v2),(3,v3)]).run Tryz.prog w= .ok (.agg #[v0,v1_0,v1_1,v1_2,v2,v3,.pointer none]) w:=by
 simp[Instr.build,Instr.fill,bA,zeroValue123,runUnderlying123,sizeOf119,sizeOf120,sizeOf121,sizeOf39,sizeOf53,aH h0,aH h2,aH h3]
theorem BU(w:World):(Instr.build 125 #[]).run Tryz.prog w= .ok (.agg #[.int .i64 0,.int .i64 0,.slice none 0 0]) w:=by
 simp[Instr.build,Instr.fill,bA,zeroValue125,runUnderlying125,sizeOf22,sizeOf3]
theorem nD(v0:Value)(v1:Value)(h0:aN v0=true)(h1:aN v1=true)(w:World):(Instr.build 125 #[(0,v0),(1,v1)]).run Tryz.prog w= .ok (.agg #[v0,v1,.slice none 0 0]) w:=by
 simp[Instr.build,Instr.fill,bA,zeroValue125,runUnderlying125,sizeOf22,sizeOf3,aH h0,aH h1]
theorem wT(w:World):(Instr.build 129 #[]).run Tryz.prog w= .ok (.agg #[.int .i64 0,.int .i64 0]) w:=by
 simp[Instr.build,Instr.fill,bA,zeroValue129,runUnderlying129,sizeOf3]
theorem ua(v0:Value)(v1:Value)(h0:aN v0=true)(h1:aN v1=true)(w:World):(Instr.build 129 #[(0,v0),(1,v1)]).run Tryz.prog w= .ok (.agg #[v0,v1]) w:=by
 simp[Instr.build,Instr.fill,bA,zeroValue129,runUnderlying129,sizeOf3,aH h0,aH h1]
theorem rU(w:World):(Instr.build 134 #[]).run Tryz.prog w= .ok (.agg #[.int .i64 0,.int .i64 0,.int .i64 0]) w:=by
 simp[Instr.build,Instr.fill,bA,zeroValue134,runUnderlying134,sizeOf3,sizeOf63]
theorem t8(v0_0 v0_1:Value)(v1:Value)(h1:aN v1=true)(w:World):(Instr.build 134 #[(0,.agg #[v0_0,v0_1]),(1,v1)]).run Tryz.prog w= .ok (.agg #[v0_0,v0_1,v1]) w:=by
 simp[Instr.build,Instr.fill,bA,zeroValue134,runUnderlying134,sizeOf3,sizeOf63,aH h1]
theorem x4(v1:Value)(h1:aN v1=true)(w:World):(Instr.build 134 #[(1,v1)]).run Tryz.prog w= .ok (.agg #[.int .i64 0,.int .i64 0,v1]) w:=by
 simp[Instr.build,Instr.fill,bA,zeroValue134,runUnderlying134,sizeOf3,sizeOf63,aH h1]
theorem lj(v0:Value)(v1:Value)(v2_0 v2_1 v2_2:Value)(h0:aN v0=true)(h1:aN v1=true)(w:World):(Instr.build 144 #[(0,v0),(1,v1),(2,.agg #[v2_0,v2_1,v2_2])]).run Tryz.prog w= .ok (.agg #[v0,v1,v2_0,v2_1,v2_2,.bool false,.int .i64 0,.int .i64 0,.map none,.map none]) w:=by
 simp[Instr.build,Instr.fill,bA,zeroValue144,runUnderlying144,sizeOf129,sizeOf141,sizeOf142,sizeOf39,sizeOf4,sizeOf53,aH h0,aH h1]
theorem jZ(v0:Value)(v1:Value)(v2:Value)(v3:Value)(h0:aN v0=true)(h1:aN v1=true)(h2:aN v2=true)(h3:aN v3=true)(w:World):(Instr.build 161 #[(0,v0),(1,v1),(2,v2),(3,v3)]).run Tryz.prog w= .ok (.agg #[v0,v1,v2,v3]) w:=by
 simp[Instr.build,Instr.fill,bA,zeroValue161,runUnderlying161,sizeOf106,sizeOf159,sizeOf22,aH h0,aH h1,aH h2,aH h3]
theorem xZ(v0:Value)(h0:aN v0=true)(w:World):(Instr.build 170 #[(0,v0)]).run Tryz.prog w= .ok (.agg #[v0,.int .i64 0]) w:=by
 simp[Instr.build,Instr.fill,bA,zeroValue170,runUnderlying170,sizeOf3,aH h0]
theorem nX(w:World):(Instr.build 171 #[]).run Tryz.prog w= .ok (.agg #[]) w:=by
 simp[Instr.build,Instr.fill,bA,zeroValue171,runUnderlying171]
theorem BT(w:World):(Instr.build 172 #[]).run Tryz.prog w= .ok (.agg #[]) w:=by
 simp[Instr.build,Instr.fill,bA,zeroValue172,runUnderlying172]
theorem t7(v0:Value)(v1:Value)(h0:aN v0=true)(h1:aN v1=true)(w:World):(Instr.build 196 #[(0,v0),(1,v1)]).run Tryz.prog w= .ok (.agg #[v0,v1,.int .i64 0]) w:=by
 simp[Instr.build,Instr.fill,bA,zeroValue196,runUnderlying196,sizeOf3,sizeOf86,aH h0,aH h1]
theorem p5(v0:Value)(v1_0 v1_1 v1_2:Value)(v2:Value)(h0:aN v0=true)(h2:aN v2=true)(w:World):(Instr.build 209 #[(0,v0),(1,.agg #[v1_0,v1_1,v1_2]),(2,v2)]).run Tryz.prog w= .ok (.agg #[v0,v1_0,v1_1,v1_2,v2,.int .i64 0]) w:=by
 simp[Instr.build,Instr.fill,bA,zeroValue209,runUnderlying209,sizeOf24,sizeOf3,sizeOf39,sizeOf53,aH h0,aH h2]
theorem fR(v0:Value)(v1_0 v1_1 v1_2:Value)(v2_0 v2_1 v2_2:Value)(v3:Value)(v4:Value)(v5:Value)(v6:Value)(v7:Value)(h0:aN v0=true)(h3:aN v3=true)(h4:aN v4=true)(h5:aN v5=true)(h6:aN v6=true)(h7:aN v7=true)(w:World):(Instr.build 212 #[(0,v0),(1,.agg #[v1_0,v1_1,v1_2]),(2,.agg #[v2_0,v2_1,v2_2]),(3,v3),(4,v4),(5,v5),(6,v6),(7,v7)]).run Tryz.prog w= .ok (.agg #[v0,v1_0,v1_1,v1_2,v2_0,v2_1,v2_2,v3,v4,v5,v6,v7,.bool false]) w:=by
 simp[Instr.build,Instr.fill,bA,zeroValue212,runUnderlying212,sizeOf125,sizeOf210,sizeOf22,sizeOf3,sizeOf39,sizeOf4,sizeOf53,aH h0,aH h3,aH h4,aH h5,aH h6,aH h7]
theorem t6(v0:Value)(v1:Value)(h0:aN v0=true)(h1:aN v1=true)(w:World):(Instr.build 279 #[(0,v0),(1,v1)]).run Tryz.prog w= .ok (.agg #[v0,v1]) w:=by
 simp[Instr.build,Instr.fill,bA,zeroValue279,runUnderlying279,sizeOf5,aH h0,aH h1]
theorem ig(v1:Value)(h1:aN v1=true)(w:World):(Instr.build 279 #[(1,v1)]).run Tryz.prog w= .ok (.agg #[.int .u8 0,v1]) w:=by
 simp[Instr.build,Instr.fill,bA,zeroValue279,runUnderlying279,sizeOf5,aH h1]
structure Pow where
 lim:Int
 used:Int
def Pow.out(s:Pow):Bool:=decide (0≤s.lim)&&decide (s.lim≤s.used)
def Pow.up(s:Pow):Pow:={s with used:=IntKind.i64.wrap (s.used+1)}
def iY(b:Nat)(s:Pow):HP:=row b [.int .i64 s.lim,.int .i64 s.used] 170
def dh:List PanicEntry:=[{v:= .iface 172 (.agg #[]),recovered:=false}]
abbrev ptr(b:Nat):Value:= .pointer (some ⟨b,0,none⟩)
theorem jA(B:World)(Fr:List HP)(n:Int):
 ∀ w,Holds B Fr w→Calls Tryz.prog 56 [.int .i64 n].toArray w (Ret B (fun v H'=>∃ b,v=ptr b∧H'=iY b ⟨n,0⟩::Fr) (fun _ _=>False)):=by
 refine ak func56 aa ntmps56 aa (ac (ab (kPa aa aa (ad (ac (ab (kPm aa aa (kPv (aR aa (xZ _ aa)) aa (kPb (aY aa) aa fun b5=>(kPa aa aa (ad ?_)))))))))))
 refine au ?_
 exact aq results56 aa (fun w hw=>⟨_,⟨_,rfl,rfl⟩,hw⟩)
theorem AK(B:World)(Fr:List HP)(b:Nat)(s:Pow):
 ∀ w,Holds B (iY b s::Fr) w→Calls Tryz.prog 274 [ptr b].toArray w (aZ B (iY b s::Fr) (.int .i64 s.used)):=by
 rw[iY]
 refine ak func274 aa ntmps274 aa (ac (ab (kPa aa aa (ad (ac (ab (kPf mc isAgg3 aa aa aa aa (kPa aa aa (ad (au ?_))))))))))
 exact aq results274 aa (fun w hw=>⟨rfl,hw⟩)
theorem lJ(B:World)(Fr:List HP)(b:Nat)(s:Pow):
 ∀ w,Holds B (iY b s::Fr) w→Calls Tryz.prog 156 [ptr b].toArray w (Ret B (fun v H'=>∃ s',(s.out=false∧v= .tuple #[]∧s.up=s')∧H'=iY b s'::Fr) (fun c H'=>∃ s',(s.out=true∧c=dh∧s=s')∧H'=iY b s'::Fr)):=by
 rw[iY]
 refine ak func156 aa ntmps156 aa (ac (ac (cN Tryz.mixed (by kernel_rfl) (by kernel_rfl) ?_)))
 refine kQm aa aa (kQv (aF aa) aa (kQv (aC (m:=_) tI aa aa) aa (kQv (ag isAgg3 aa aa) aa (kQv (am aa aa aa) aa (kQm aa aa ?_)))))
 apply nl (tp:=17) (t:=7) (σ1:=[(7,_),(0,_)]) 10 rfl ⟨rfl,rfl,trivial⟩
 ·intro hg1
  refine bg aa (al aa) (.on aa aa (ae hg1)) aa (bg aa (aF aa) (.on aa aa (ae hg1)) aa (bg aa (aC (m:=_) mc aa aa) (.on aa aa (ae hg1)) aa (bg aa (ag isAgg3 aa aa) (.on aa aa (ae hg1)) aa (bg aa (al aa) (.on aa aa (ae hg1)) aa (bg aa (aF aa) (.on aa aa (ae hg1)) aa (bg aa (aC (m:=_) tI aa aa) (.on aa aa (ae hg1)) aa (bg aa (ag isAgg3 aa aa) (.on aa aa (ae hg1)) aa (bg aa (am aa aa aa) (.on aa aa (ae hg1)) aa (kQv (aB aa hg1 aa) aa ?_)))))))))
  exact fp aa ⟨rfl,rfl,trivial⟩ (dj hg1)
 ·intro hg1
  refine ba aa (.on aa aa (ai hg1)) aa (ba aa (.on aa aa (ai hg1)) aa (ba aa (.on aa aa (ai hg1)) aa (ba aa (.on aa aa (ai hg1)) aa (ba aa (.on aa aa (ai hg1)) aa (ba aa (.on aa aa (ai hg1)) aa (ba aa (.on aa aa (ai hg1)) aa (ba aa (.on aa aa (ai hg1)) aa (ba aa (.on aa aa (ai hg1)) aa (kQv (aJ aa hg1 aa) aa ?_)))))))))
  exact fp aa ⟨rfl,rfl,trivial⟩ (dl hg1)
 refine bM ?_
 refine aV aa (fun h17=> ?_) (fun h17=> ?_)
 ·try simp only[decide_eq_true_eq,decide_eq_false_iff_not,Bool.not_eq_true',Bool.not_eq_false',Bool.or_eq_true,Bool.and_eq_true,Bool.and_eq_false_iff,Bool.or_eq_false_iff,beq_iff_eq,bne_iff_ne,beq_eq_false_iff_ne,bne_eq_false_iff_eq,ge_iff_le,gt_iff_lt,ne_eq] at h17
  refine ab (kPv (aR aa (BT)) aa (kPv (zZ runUnderlying172 aa aa) aa (y8 aa .free ?_)))
  exact aX (fun w hw=>⟨_,⟨_,⟨by simp[Pow.out];omega,rfl,rfl⟩,rfl⟩,hw⟩)
 ·try simp only[decide_eq_true_eq,decide_eq_false_iff_not,Bool.not_eq_true',Bool.not_eq_false',Bool.or_eq_true,Bool.and_eq_true,Bool.and_eq_false_iff,Bool.or_eq_false_iff,beq_iff_eq,bne_iff_ne,beq_eq_false_iff_ne,bne_eq_false_iff_eq,ge_iff_le,gt_iff_lt,ne_eq] at h17
  refine aw (ab (kPf mc isAgg3 aa aa aa aa (kPv (aP aa aa) aa (kPv (aF aa) aa (kPv (aC (m:=_) mc aa aa) aa (kPs (aO sizeOf3 aa aa aa aa) aa (ad (aj [] rfl ?_))))))))
  exact cG results156 (fun w hw=>⟨_,⟨_,⟨by simp[Pow.out];omega,rfl,rfl⟩,rfl⟩,hw⟩)
theorem AV{B:World}{H:List HP}{b:Nat}{x:Bool}{w:World}(hw:Holds B (row b [.bool x] 4::H) w):
 CallsD Tryz.prog 121 #[ptr b] (.panicking dh) w fun e u' w'=>e= .returned (.tuple #[])∧u'= .panicking [{v:= .iface 172 (.agg #[]),recovered:=true}]∧Holds B (row b [.bool false] 4::H) w':=by
 refine callsD_of_wpS func121 aa fun c₀ cs hu=> ?_
 apply wpS_seq
 apply wpS_region
 simp[wpOpsS,go_sem,recoverD,hu,dh,ntmps121,Exit.thenS]
 refine yl (n:=15) (σ:=[(0,ptr b),(1,.iface 172 (.agg #[]))]) (K:=BK (Holds B (row b [.bool false] 4::H))) (X:=noX) (by simp) aa (by simp[KnA]) hw ?_ ?_
 ·skip
  refine ac (ab (kPm aa aa ?_))
  first | refine ao rfl (mh runUnderlying20 rfl (.inr ⟨_,_,rfl⟩)) .free rfl rfl ?_ | refine ao rfl (mh runUnderlying20 rfl (.inl rfl)) .free rfl rfl ?_
  refine ad (li aa (rfl) (ac (ac (ab (kPm aa aa (kPv (DT runUnderlying172 aa aa) aa (kPm aa aa (kPv (az aa aa) aa (kPv (az aa aa) aa (kPb (aD zeroValue172 aa) aa fun b2=>(kPs (aA (vs:=_) sizeOf172 aa aa aa aa aa) aa ?_)))))))))))
  refine kPa aa aa (ad (aj [3,0,1] rfl (ac (ab (kPm aa aa (kPv (bu aa) aa (ad (bH aa (rfl) (aw (ab (kPs (aO sizeOf4 aa aa aa aa) aa ?_)))))))))))
  refine ad ?_
  exact wq fun _ h=>by first | exact h | exact(h.front 1 rfl).map fun _ k=>fz (fun _ k=>gH k) k
 ·intro e a w' q
  obtain⟨rfl,q1,q2⟩:=vA q
  refine⟨q1,.panicking [{v:= .iface 172 (.agg #[]),recovered:=true}],rfl,.tuple #[],?_,rfl,rfl,q2⟩
  exact results_none results121 _ _ _
theorem yU{B:World}{H:List HP}{b:Nat}{x:Bool}{w:World}(hw:Holds B (row b [.bool x] 4::H) w):
 CallsD Tryz.prog 121 #[ptr b] .returning w fun e u' w'=>e= .returned (.tuple #[])∧u'= .returning∧Holds B (row b [.bool x] 4::H) w':=by
 refine callsD_of_wpS func121 aa fun c₀ cs hu=> ?_
 apply wpS_seq
 apply wpS_region
 simp[wpOpsS,go_sem,recoverD,hu,ntmps121,Exit.thenS]
 refine yl (n:=15) (σ:=[(0,ptr b),(1,.nilIface)]) (K:=BK (Holds B (row b [.bool x] 4::H))) (X:=noX) (by simp) aa (by simp[KnA]) hw ?_ ?_
 ·skip
  refine ac (ab (kPm aa aa ?_))
  first | refine ao rfl (mh runUnderlying20 rfl (.inr ⟨_,_,rfl⟩)) .free rfl rfl ?_ | refine ao rfl (mh runUnderlying20 rfl (.inl rfl)) .free rfl rfl ?_
  refine ad (bH aa (rfl) (aw ?_))
  exact wq fun _ h=>h
 ·intro e a w' q
  obtain⟨rfl,q1,q2⟩:=vA q
  refine⟨q1,.returning,?_,.tuple #[],?_,rfl,rfl,q2⟩
  ·cases c₀;simp_all
  ·exact results_none results121 _ _ _
theorem yR{B:World}{g:FuncId}{cap:List Value}{H:List HP}{Φ Ψ:List HP→Prop}(hc:∀ args w,(callFunc g args).run Tryz.prog w= .ok (.enter g args) w)
 (h:∀ A w,Holds B (A::H) w→Calls Tryz.prog g cap.toArray w (Ret B (fun _ H'=>∃ H1,Φ H1∧∀ w,Holds B H' w→Holds B (A::H1) w) (fun c H'=>c=dh∧∃ H1,Ψ H1∧∀ w,Holds B H' w→Holds B (A::H1) w))):
 ∀ w,Holds B H w→Calls Tryz.prog 59 [.func (.func g) #[] cap.toArray].toArray w (Ret B (fun v H'=>(v= .bool true∧Φ H')∨(v= .bool false∧Ψ H')) (fun _ _=>False)):=by
 refine uX func59 aa ntmps59 aa (ac (ab (kPb (cm zeroValue4 aa) aa fun b=>(ad (ac (ab (kPv (c7 aa aa) aa (A3 aa aa .free (ad (ac (ab ?_)))))))))))
 refine kPm aa aa ?_
 refine aQ aa (fa hc aa aa) (by simpa using h (row b [.bool false] 4)) .free aa aa ?_ ?_
 ·rintro v H' ⟨H1,hΦ,hi⟩
  refine aK hi (ad (ac (ab (kPs (aO sizeOf4 aa aa aa aa) aa (ad (au ?_))))))
  intro a w s
  show Leaves _ _ _ _ a.defers .returning w
  rw[s.defers]
  refine leaves_cons (f:=121) (args:= #[ptr b]) (by simp) (by simp[invoke,call121]) ((yU (x:=true) s.holds).mono ?_)
  rintro e u' w' ⟨rfl,rfl,hw'⟩
  refine⟨.bool true,?_,H1,.inl ⟨rfl,hΦ⟩,hw'.tail⟩
  have h1:=s.env 2 (ptr b) rfl
  have h2:=hw'.ucell (b:=b) 0
  simp[results,results59,h1,asAddr,loadVar,isAgg4,load,Sem.run,h2]
 ·rintro c H' ⟨rfl,H1,hΨ,hi⟩
  refine aK hi ?_
  intro a w s
  show Leaves _ _ _ _ a.defers (.panicking dh) w
  rw[s.defers]
  refine leaves_cons (f:=121) (args:= #[ptr b]) (by simp) (by simp[invoke,call121]) ((AV (x:=false) s.holds).mono ?_)
  rintro e u' w' ⟨rfl,rfl,hw'⟩
  refine⟨.bool false,?_,H1,.inr ⟨rfl,hΨ⟩,hw'.tail⟩
  have h1:=s.env 2 (ptr b) rfl
  have h2:=hw'.ucell (b:=b) 0
  simp[results,results59,h1,asAddr,loadVar,isAgg4,load,Sem.run,h2]
theorem vJ{B:World}{g:FuncId}{cap:List Value}{H:List HP}(r:Bool)(F:List HP)(hc:∀ args w,(callFunc g args).run Tryz.prog w= .ok (.enter g args) w)
 (h:∀ A w,Holds B (A::H) w→Calls Tryz.prog g cap.toArray w (Ret B (fun _ H'=>r=true∧∀ w,Holds B H' w→Holds B (A::F) w) (fun c H'=>r=false∧c=dh∧∀ w,Holds B H' w→Holds B (A::F) w))):
 ∀ w,Holds B H w→Calls Tryz.prog 59 [.func (.func g) #[] cap.toArray].toArray w (Ret B (fun v H'=>v= .bool r∧H'=F) (fun _ _=>False)):=by
 intro w hw
 refine(yR (Φ:=fun H1=>r=true∧H1=F) (Ψ:=fun H1=>r=false∧H1=F) hc (fun A w hw=>(h A w hw).mono (Ret.mono (fun v H' h=>⟨F,⟨h.1,rfl⟩,h.2⟩) (fun c H' h=>⟨h.2.1,F,⟨h.1,rfl⟩,h.2.2⟩))) w hw).mono (Ret.mono ?_ (fun _ _ h=>h))
 rintro v H' (⟨rfl,rfl,rfl⟩ | ⟨rfl,rfl,rfl⟩)<;>exact⟨rfl,rfl⟩
abbrev w64(x:Int):Value:= .int .u64 x
abbrev pY(ws:List Int):Value:= .agg (ws.map w64).toArray
abbrev i64(x:Int):Value:= .int .i64 x
structure Dev where
 pa:Nat
 pow:Pow
 n:Nat
 now:Nat→Int
 kept:Nat→Int
 q:Nat→Option (Nat→Int)
structure yh(n:Nat)(q:Nat→Option (Nat→Int))(l:List (Int×List Int)):Prop where
 pos:∀ p∈l,0≤p.1
 get:∀ k:Nat,bG l k=(q k).map (tab 8)
 lt:∀ k f,q k=some f→k*8+8≤n
structure AG(s:Dev)(l:List (Int×List Int)):Prop where
 line:s.n%8=0
 pos:0<s.n
 le:s.n≤1000000
 rep:yh s.n s.q l
def Do(b bn bk bq:Nat)(rest:List Value)(l:List (Int×List Int))(s:Dev):List HP:=
 [row b [.pointer (some ⟨s.pa,0,none⟩),.slice (some ⟨bn,0,none⟩) s.n s.n,.slice (some ⟨bk,0,none⟩) s.n (s.n+rest.length),.map (some bq)] 161,
  row bn (tab s.n fun i=>w64 (s.now i)) 24,row bk (tab s.n (fun i=>w64 (s.kept i))++rest) 24,bB .i64 pY bq l,iY s.pa s.pow,pr (AG s l)]
def ax(b:Nat)(s:Dev):HP:=hex fun (x:Nat×Nat×Nat×List Value×List (Int×List Int))=>grp (Do b x.1 x.2.1 x.2.2.1 x.2.2.2.1 x.2.2.2.2 s)
theorem qG{B:World}{b:Nat}{s:Dev}{Fr:List HP}{w:World}(h:Holds B (ax b s::Fr) w):∃ bn bk bq rest l,AG s l∧Holds B (row b [.pointer (some ⟨s.pa,0,none⟩),.slice (some ⟨bn,0,none⟩) s.n s.n,.slice (some ⟨bk,0,none⟩) s.n (s.n+rest.length),.map (some bq)] 161::
 row bn (tab s.n fun i=>w64 (s.now i)) 24::row bk (tab s.n (fun i=>w64 (s.kept i))++rest) 24::bB .i64 pY bq l::iY s.pa s.pow::Fr) w:=by
 obtain⟨x,hx⟩:=h.hex
 have h2:=hx.grp
 simp only[Do,List.cons_append,List.nil_append] at h2
 have h3:=(h2.front 5 rfl).pr
 exact⟨_,_,_,_,_,h3.1,h3.2⟩
theorem c9{B:World}{b:Nat}{s:Dev}{Fr:List HP}{w:World}{bn bk bq:Nat}{rest:List Value}{l:List (Int×List Int)}(hw:AG s l)(h:Holds B (row b [.pointer (some ⟨s.pa,0,none⟩),.slice (some ⟨bn,0,none⟩) s.n s.n,.slice (some ⟨bk,0,none⟩) s.n (s.n+rest.length),.map (some bq)] 161::
 row bn (tab s.n fun i=>w64 (s.now i)) 24::row bk (tab s.n (fun i=>w64 (s.kept i))++rest) 24::bB .i64 pY bq l::iY s.pa s.pow::Fr) w):Holds B (ax b s::Fr) w:=by
 refine Holds.unhex (bn,bk,bq,rest,l) (Holds.ungrp (l:=Do b bn bk bq rest l s) ?_)
 exact(h.unpr hw).back 5 (by simp)
theorem iS{B:World}{n:Nat}{D:List Deferred}{σ:Env}{b:Nat}{s:Dev}{Fr:List HP}{K:Act→World→Prop}(h:∀ bn bk bq rest l,AG s l→GO B n D σ (row b [.pointer (some ⟨s.pa,0,none⟩),.slice (some ⟨bn,0,none⟩) s.n s.n,.slice (some ⟨bk,0,none⟩) s.n (s.n+rest.length),.map (some bq)] 161::
 row bn (tab s.n fun i=>w64 (s.now i)) 24::row bk (tab s.n (fun i=>w64 (s.kept i))++rest) 24::bB .i64 pY bq l::iY s.pa s.pow::Fr) K):GO B n D σ (ax b s::Fr) K:=fun a w st=>by
 obtain⟨bn,bk,bq,rest,l,h1,h2⟩:=qG st.holds
 exact h bn bk bq rest l h1 a w ⟨st.toStA,h2⟩
theorem kt{B:World}{n:Nat}{D:List Deferred}{σ:Env}{H:List HP}{K:Act→World→Prop}(b:Nat){s:Dev}{Fr:List HP}[At H ax b s Fr](h:s.n%8=0→0<s.n→s.n≤1000000→GO B n D σ H K):GO B n D σ H K:=fun a w st=>by
 obtain⟨_,_,_,_,_,hw,_⟩:=qG (st.holds.pull ax b)
 exact h hw.line hw.pos hw.le a w st
inductive Out (α:Type) where
 | ok (a:α) (s:Dev)
 | off (s:Dev)
abbrev okV{α:Type}(enc:α→Value)(m:Out α)(v:Value)(s:Dev):Prop:=∃ a,m= .ok a s∧v=enc a
abbrev CL{α:Type}(m:Out α)(c:List PanicEntry)(s:Dev):Prop:=m= .off s∧c=dh
abbrev B2(_:Unit):Value:= .tuple #[]
def Dev.has(s:Dev)(i:Int):Bool:=decide (0≤i)&&decide (i<s.n)
def Dev.load(s:Dev)(i:Int):Int:=if s.has i=true then s.now i.toNat else 0
def Dev.up(s:Dev):Dev:={s with pow:=s.pow.up}
def Dev.st(s:Dev)(i:Nat)(v:Int):Dev:={s with now:=upd s.now i v}
def Dev.fl(s:Dev)(i:Nat):Dev:={s with q:=upd s.q (i / 8) (some fun k=>s.now (i / 8*8+k))}
def eM(kept:Nat→Int)(q:Nat→Option (Nat→Int))(i:Nat):Int:=match q (i / 8) with
 | some f=>f (i%8)
 | none=>kept i
def Dev.fe(s:Dev):Dev:={s with kept:=eM s.kept s.q,q:=fun _=>none}
def Dev.store(s:Dev)(i v:Int):Out Int:=if s.has i=false then .ok 1 s else if s.pow.out=true then .off s else .ok 0 (s.up.st i.toNat v)
def Dev.flush(s:Dev)(i:Int):Out Int:=if s.has i=false then .ok 1 s else if s.pow.out=true then .off s else .ok 0 (s.up.fl i.toNat)
def Dev.fence(s:Dev):Out Unit:=if s.pow.out=true then .off s else .ok () s.up.fe
def Dev.crash(s:Dev)(c:Nat→Int):Dev:=
 let k:=fun i=>if c i%3=1 then eM s.kept s.q i else if c i%3=2 then s.now i else s.kept i
 {s with now:=k,kept:=k,q:=fun _=>none}
theorem kQ(B:World)(Fr:List HP)(b:Nat)(s:Dev):
 ∀ w,Holds B (ax b s::Fr) w→Calls Tryz.prog 103 [ptr b].toArray w (aZ B (ax b s::Fr) (i64 s.n)):=by
 refine ak func103 aa ntmps103 aa (iS fun bn bk bq rest l hw=> ?_)
 have hw1:=hw.line
 have hw2:=hw.pos
 have hw3:=hw.le
 refine ac (ab (kPa aa aa (ad (ac (ab (kPf ge isAgg22 aa aa aa aa (kPv (bS aa runUnderlying22 ⟨_,rfl⟩ rfl) aa (kPa aa aa (ad (au ?_))))))))))
 exact aq results103 aa (fun w hh=>⟨rfl,c9 hw hh⟩)
theorem rx(B:World)(Fr:List HP)(b:Nat)(s:Dev)(i:Int):
 ∀ w,Holds B (ax b s::Fr) w→Calls Tryz.prog 155 [ptr b,i64 i].toArray w (aZ B (ax b s::Fr) (.bool (s.has i))):=by
 refine ak func155 aa ntmps155 aa (iS fun bn bk bq rest l hw=> ?_)
 have hw1:=hw.line
 have hw2:=hw.pos
 have hw3:=hw.le
 refine ac (ab (kPa aa aa (ad (ac (ab (kPm aa aa (kPv (am aa aa aa) aa (kPm aa aa ?_))))))))
 apply dS (tp:=15) (t:=7) (σ1:=[(7,_),(4,_)]) 8 rfl ⟨rfl,rfl,trivial⟩
 ·intro hg1
  refine ao aa (al aa) (.on aa aa (ae hg1)) aa aa (ao aa (al aa) (.on aa aa (ae hg1)) aa aa (ao aa (aF aa) (.on aa aa (ae hg1)) aa aa (ao aa (aC (m:=_) ge aa aa) (.on aa aa (ae hg1)) aa aa (ao aa (ag isAgg22 aa aa) (.on aa aa (ae hg1)) aa aa (ao aa (bS aa runUnderlying22 ⟨_,rfl⟩ rfl) (.on aa aa (ae hg1)) aa aa (ao aa (am aa aa aa) (.on aa aa (ae hg1)) aa aa (kPv (aB aa hg1 aa) aa ?_)))))))
  exact bf aa ⟨rfl,rfl,trivial⟩ (dj hg1)
 ·intro hg1
  refine ay aa (.on aa aa (ai hg1)) aa (ay aa (.on aa aa (ai hg1)) aa (ay aa (.on aa aa (ai hg1)) aa (ay aa (.on aa aa (ai hg1)) aa (ay aa (.on aa aa (ai hg1)) aa (ay aa (.on aa aa (ai hg1)) aa (ay aa (.on aa aa (ai hg1)) aa (kPv (aJ aa hg1 aa) aa ?_)))))))
  exact bf aa ⟨rfl,rfl,trivial⟩ (dl hg1)
 refine kPa aa aa (ad (au ?_))
 exact aq results155 aa (fun w hh=>⟨rfl,c9 hw hh⟩)
theorem iz(B:World)(Fr:List HP)(q:Option Addr)(n cap:Nat)(cs:List Value)(hq:q≠none)(hn:cs.length≤1000000)(hc:cs.all aN=true)(hr:SlR B Fr (.slice q n cap) cs):
 ∀ w,Holds B Fr w→Calls Tryz.prog 120 [.slice q n cap].toArray w (Ret B (fun v H'=>∃ bn rest,v= .slice (some ⟨bn,0,none⟩) n (n+rest.length)∧H'=row bn (cs++rest) 24::Fr) (fun _ _=>False)):=by
 refine ak func120 aa ntmps120 aa ?_
 obtain⟨_,_,e0,_⟩:=hr.ex
 obtain rfl:n=cs.length:=by injection e0
 refine ac (ab (kPa aa aa (ad (ac (ac (ab (kPm aa aa (kPv (wJ runUnderlying22 aa aa aa) aa (ad (bH aa (by cases q with | none=>exact absurd aa hq | some _=>rfl) (aw ?_)))))))))))
 refine ac (ab (kPb (rH runUnderlying22 sizeOf24) aa fun b0=>(kPm aa aa (cX aa (ji aa aa runUnderlying22 runUnderlying22 ⟨_,rfl⟩ sizeOf24 zeroValue24 aa gh aa aa (hr.cons _) (by simp) (by simp) (by simp;omega) hc) .free aa aa (fun v H' hY=> ?_)))))
 have hY2:∃ bn rest,v= .slice (some ⟨bn,0,none⟩) cs.length (cs.length+rest.length)∧∀ w,Holds B H' w→Holds B (row bn (cs++rest) 24::Fr) w:=by
  rcases hY with ⟨h1,rfl,rfl⟩ | ⟨h1,bn,cn,rest,h2,_,rfl,rfl⟩
  ·have:cs=[]:=by simpa using h1
   subst this
   exact⟨b0,[],rfl,fun w h=>h⟩
  ·exact⟨bn,rest,by simp[←h2],fun w h=>by simpa using(h.front 1 aa).tail⟩
 obtain⟨bn,rest,rfl,hY3⟩:=hY2
 refine aK hY3 (kPa aa aa (ad (au ?_)))
 exact aq results120 aa (fun w hw=>⟨_,⟨_,_,rfl,rfl⟩,hw⟩)
theorem ck(B:World)(Fr:List HP)(b:Nat)(s:Dev)(i:Int):
 ∀ w,Holds B (ax b s::Fr) w→Calls Tryz.prog 101 [ptr b,i64 i].toArray w (aZ B (ax b s::Fr) (w64 (s.load i))):=by
 refine ak func101 aa ntmps101 aa (ac (ab (kPa aa aa (ad (ac (ac (ab (kPm aa aa (kPm aa aa (ap aa (ar call155 aa) (bF (fun Fr=>rx _ Fr _ _ _)) .free aa aa ?_))))))))))
 refine kPv (bu aa) aa (ad ?_)
 refine aV aa (fun h8=> ?_) (fun h8=> ?_)
 ·try simp only[decide_eq_true_eq,decide_eq_false_iff_not,Bool.not_eq_true',Bool.not_eq_false',Bool.or_eq_true,Bool.and_eq_true,Bool.and_eq_false_iff,Bool.or_eq_false_iff,beq_iff_eq,bne_iff_ne,beq_eq_false_iff_ne,bne_eq_false_iff_eq,ge_iff_le,gt_iff_lt,ne_eq] at h8
  refine ac (ab (kPa aa aa (ad (au ?_))))
  exact aq results101 aa (fun w hh=>by
   first
    | exact⟨by simp[Dev.load,h8],c9 hw hh⟩
    | exact⟨by simp[Dev.load,h8],hh⟩)
 ·try simp only[decide_eq_true_eq,decide_eq_false_iff_not,Bool.not_eq_true',Bool.not_eq_false',Bool.or_eq_true,Bool.and_eq_true,Bool.and_eq_false_iff,Bool.or_eq_false_iff,beq_iff_eq,bne_iff_ne,beq_eq_false_iff_ne,bne_eq_false_iff_eq,ge_iff_le,gt_iff_lt,ne_eq] at h8
  refine aw (ac (ab (iS fun bn bk bq rest l hw=> ?_)))
  have hw1:=hw.line
  have hw2:=hw.pos
  have hw3:=hw.le
  have hi:0≤i∧i<s.n:=by simpa [Dev.has] using h8
  refine kPf ge isAgg22 aa aa aa aa (kPm aa aa (kPv (cC runUnderlying22 sizeOf24 aa aa hi.1 hi.2) aa (kPv (ag isAgg24 aa (by rw[Nat.zero_add];exact dY (by omega))) aa (kPa aa aa (ad (aj [4] rfl (au ?_)))))))
  exact aq results101 aa (fun w hh=>by
   first
    | exact⟨by simp[Dev.load,h8],c9 hw hh⟩
    | exact⟨by simp[Dev.load,h8],hh⟩)
theorem qp(B:World)(Fr:List HP)(b:Nat)(s:Dev)(pb:Nat)(pw:Pow):
 ∀ w,Holds B (ax b s::iY pb pw::Fr) w→Calls Tryz.prog 61 [ptr b,ptr pb].toArray w (Ret B (fun _ H'=>H'=ax b {s with pa:=pb,pow:=pw}::Fr) (fun _ _=>False)):=by
 refine ak func61 aa ntmps61 aa (iS fun bn bk bq rest l hw=> ?_)
 have hw1:=hw.line
 have hw2:=hw.pos
 have hw3:=hw.le
 refine ab (kPm aa aa (kPm aa aa (kPv (aF aa) aa (kPv (aC (m:=_) me aa aa) aa ?_))))
 refine kPs (aO sizeOf106 aa aa (by first | rfl | assumption) rfl) rfl ?_;refine ad ?_
 exact cG results61 (fun w hh=>⟨_,rfl,c9 (s:={s with pa:=pb,pow:=pw}) (bn:=bn) (bk:=bk) (bq:=bq) (rest:=rest) (l:=l) ⟨hw.line,hw.pos,hw.le,hw.rep⟩ (hh.front 4 aa).tail⟩)
theorem cI(B:World)(Fr:List HP)(b:Nat)(s:Dev)(i v:Int):
 ∀ w,Holds B (ax b s::Fr) w→Calls Tryz.prog 104 [ptr b,i64 i,w64 v].toArray w (Ret B (fun rv H'=>∃ s',okV (fun e=>i64 e) (s.store i v) rv s'∧H'=ax b s'::Fr) (fun c H'=>∃ s',CL (s.store i v) c s'∧H'=ax b s'::Fr)):=by
 refine ak func104 aa ntmps104 aa (ac (ab (kPa aa aa (ad (ac (ac (ab (kPm aa aa (kPm aa aa (ap aa (ar call155 aa) (bF (fun Fr=>rx _ Fr _ _ _)) .free aa aa ?_))))))))))
 refine kPv (bu aa) aa (ad ?_)
 refine aV aa (fun h10=> ?_) (fun h10=> ?_)
 ·have hhas:s.has i=false:=by simpa using h10
  refine ac (ab (kPa aa aa (ad (au ?_))))
  exact aq results104 aa (fun w hh=>⟨_,⟨s,⟨1,by simp[Dev.store,hhas],rfl⟩,rfl⟩,hh⟩)
 ·have hhas:s.has i=true:=by simpa using h10
  have hi:0≤i∧i<s.n:=by simpa [Dev.has] using hhas
  refine aw (ac (ab (iS fun bn bk bq rest l hw=> ?_)))
  have hw1:=hw.line
  have hw2:=hw.pos
  have hw3:=hw.le
  refine kPf me isAgg106 aa aa aa aa ?_
  refine aQ aa (ar call156 aa) (cS (fun Fr=>lJ _ Fr _ _)) .free aa aa ?_ ?_
  rotate_left
  ·rintro _ _ ⟨_,⟨ho,rfl,rfl⟩,rfl⟩
   exact aX fun w hh=>⟨_,⟨s,⟨by simp[Dev.store,hhas,ho],rfl⟩,rfl⟩,c9 hw hh⟩
  rintro _ _ ⟨_,⟨ho,rfl,rfl⟩,rfl⟩
  refine ad (aj [6,0,1,2] rfl (ac (ab (kPf ge isAgg22 aa aa aa aa (kPm aa aa (kPm aa aa (kPv (cC runUnderlying22 sizeOf24 aa aa hi.1 hi.2) aa (kPs (aO sizeOf24 aa aa aa (by simp[Nat.blt_eq,aW];omega)) aa (ad (aj [6] rfl (ac ?_)))))))))))
  refine ab (kPa aa aa (ad (au ?_)))
  exact aq results104 aa (fun w hh=>by
   refine⟨_,⟨s.up.st i.toNat v,⟨0,by simp[Dev.store,hhas,ho],rfl⟩,rfl⟩,c9 (s:=s.up.st i.toNat v) (bn:=bn) (bk:=bk) (bq:=bq) (rest:=rest) (l:=l) ⟨hw.line,hw.pos,hw.le,hw.rep⟩ ?_⟩
   rw[Nat.zero_add,nK] at hh
   have e:(tab s.n fun j=>w64 ((s.up.st i.toNat v).now j))=tab s.n (upd (fun i=>w64 (s.now i)) i.toNat (w64 v)):=eV fun j _=>by
    simp only[Dev.st,upd];split<;>rfl
   rw[←e] at hh
   exact hh)
theorem CA{k:Nat}(h:k≤1000000000):IntKind.i64.wrap ((k:Int).tdiv 8)=((k / 8:Nat):Int):=by
 rw[hG (by rw[Int.tdiv_eq_ediv_of_nonneg (by omega)];omega),Int.tdiv_eq_ediv_of_nonneg (by omega)];omega
theorem D2{k:Nat}:((k:Int).tmod 8)=((k%8:Nat):Int):=by
 rw[Int.tmod_eq_emod_of_nonneg (by omega)];omega
theorem w8{α:Type}{n a m:Nat}{f:Nat→α}(h:a+m≤n):((tab n f).drop a).take m=tab m (fun j=>f (a+j)):=by
 apply List.ext_getElem?
 intro j
 by_cases hj:j<m
 ·rw[List.getElem?_take_of_lt hj,List.getElem?_drop,dY (by omega),dY hj]
 ·rw[List.getElem?_eq_none (by rw[List.length_take,List.length_drop,aW];omega),List.getElem?_eq_none (by rw[aW];omega)]
theorem yX{n:Nat}{qq:Nat→Option (Nat→Int)}{l:List (Int×List Int)}(h:yh n qq l)(k:Nat)(f:Nat→Int)(hk:k*8+8≤n):yh n (upd qq k (some f)) (mset l k (tab 8 f)):=by
 refine⟨fun p hp=> ?_,fun j=> ?_,fun j g hg=> ?_⟩
 ·rcases lV hp with rfl | hp
  ·simp
  ·exact h.pos p hp
 ·rw[jc]
  simp only[upd]
  by_cases e:j=k
  ·subst e;simp
  ·rw[if_neg (by omega),if_neg e];exact h.get j
 ·simp only[upd] at hg
  split at hg
  ·rename_i e;subst e;exact hk
  ·exact h.lt j g hg
theorem oH(n:Nat):yh n (fun _=>none) []:=⟨by simp,fun k=>rfl,fun _ _ h=>by cases h⟩
theorem dJ(B:World)(Fr:List HP)(b:Nat)(s:Dev)(i:Int):
 ∀ w,Holds B (ax b s::Fr) w→Calls Tryz.prog 105 [ptr b,i64 i].toArray w (Ret B (fun rv H'=>∃ s',okV (fun e=>i64 e) (s.flush i) rv s'∧H'=ax b s'::Fr) (fun c H'=>∃ s',CL (s.flush i) c s'∧H'=ax b s'::Fr)):=by
 refine ak func105 aa ntmps105 aa (ac (ab (kPa aa aa (ad (ac (ac (ab (kPm aa aa (kPm aa aa (ap aa (ar call155 aa) (bF (fun Fr=>rx _ Fr _ _ _)) .free aa aa ?_))))))))))
 refine kPv (bu aa) aa (ad ?_)
 refine aV aa (fun h9=> ?_) (fun h9=> ?_)
 ·have hhas:s.has i=false:=by simpa using h9
  refine ac (ab (kPa aa aa (ad (au ?_))))
  exact aq results105 aa (fun w hh=>⟨_,⟨s,⟨1,by simp[Dev.flush,hhas],rfl⟩,rfl⟩,hh⟩)
 ·have hhas:s.has i=true:=by simpa using h9
  have hi:0≤i∧i<s.n:=by simpa [Dev.has] using hhas
  obtain⟨k,rfl⟩:∃ k:Nat,i=k:=⟨i.toNat,by omega⟩
  have hk:k<s.n:=by omega
  refine aw (ac (ab (iS fun bn bk bq rest l hw=> ?_)))
  have hw1:=hw.line
  have hw2:=hw.pos
  have hw3:=hw.le
  have hk8:k / 8*8+8≤s.n:=by omega
  refine kPf me isAgg106 aa aa aa aa ?_
  refine aQ aa (ar call156 aa) (cS (fun Fr=>lJ _ Fr _ _)) .free aa aa ?_ ?_
  rotate_left
  ·rintro _ _ ⟨_,⟨ho,rfl,rfl⟩,rfl⟩
   exact aX fun w hh=>⟨_,⟨s,⟨by simp[Dev.flush,hhas,ho],rfl⟩,rfl⟩,c9 hw hh⟩
  rintro _ _ ⟨_,⟨ho,rfl,rfl⟩,rfl⟩
  refine ad (aj [4,0,1] rfl (ac (ab (kPm aa aa (kPv (ly aa aa (by decide) (CA (by omega))) aa (kPa aa aa (ad (ac (cH 17 Tryz.mixed (by kernel_rfl) (by kernel_rfl) ?_)))))))))
  refine kQm aa aa (kQv (aF aa) aa (kQv (aC (m:=_) kx aa aa) aa (kQv (ag isAgg159 aa aa) aa (kQm aa aa (kQm aa aa (kQv (aF aa) aa (kQv (aC (m:=_) ge aa aa) aa (kQv (ag isAgg22 aa aa) aa (kQm aa aa (kQv (mR (c:=((k / 8*8:Nat):Int)) aa aa (by rw[hG (by omega)];omega)) aa (kQm aa aa ?_)))))))))))
  refine kQv (iT (c:=((k / 8+1:Nat):Int)) aa aa (by rw[hG (by omega)];omega)) aa (kQv (mR (c:=(((k / 8+1)*8:Nat):Int)) aa aa (by rw[hG (by omega)];omega)) aa (kQv (kC (m:=k / 8*8) runUnderlying22 sizeOf24 aa (.yes aa) (.yes aa) (by omega) (by omega) (.inl (by omega)) (by omega)) aa (kQv (C3 runUnderlying162 aa (by omega)) aa (kQv (ah isAgg162 sizeOf162 aa (by rw[Nat.ble_eq,aW];omega)) aa ?_))))
  refine bM (kPs (gz (u:=tab 8 fun j=>s.now (k / 8*8+j)) runUnderlying159 runUnderlying3 aa aa aa (by rw[w8 hk8, ←lK (g:=w64)])) aa (ad (aj [4] rfl (ac (ab (kPa aa aa (ad (au ?_))))))))
  exact aq results105 aa (fun w hh=>by
   refine⟨_,⟨s.up.fl k,⟨0,by simp[Dev.flush,hhas,ho],rfl⟩,rfl⟩,c9 (s:=s.up.fl k) (bn:=bn) (bk:=bk) (bq:=bq) (rest:=rest) (l:=mset l ((k / 8:Nat):Int) (tab 8 fun j=>s.now (k / 8*8+j))) ⟨hw.line,hw.pos,hw.le,?_⟩ hh⟩
   exact yX hw.rep (k / 8) _ hk8)
theorem xx{N:Nat}{xs:List Int}(h:xs.length≤N):dx (List.replicate N (.int .u64 0)) 0 (xs.map w64)=tab N fun i=>w64 (xs.getD i 0):=by
 apply List.ext_getElem?
 intro j
 rw[jw _ _ _ _ (by simp;omega)]
 by_cases hj:j<N
 ·rw[dY hj]
  by_cases h2:j<xs.length
  ·rw[if_pos (by simp;omega)];simp[h2,List.getD]
  ·rw[if_neg (by simp;omega)]
   simp[hj,List.getD,List.getElem?_eq_none (Nat.le_of_not_lt h2)]
 ·rw[if_neg (by simp;omega),List.getElem?_eq_none (by simp;omega),List.getElem?_eq_none (by rw[aW];omega)]
def qof(l:List (Int×List Int))(k:Nat):Option (Nat→Int):=(bG l k).map fun ws j=>ws.getD j 0
theorem sW{α:Type}{l:List (Int×α)}{p:Int×α}(h:p.1∉l.map Prod.fst)(k:Int):bG (l++[p]) k=if k=p.1 then some p.2 else bG l k:=by
 induction l with
 | nil=>
   simp only[List.nil_append,bG]
   by_cases e:p.1=k
   ·simp[e]
   ·rw[if_neg e,if_neg (Ne.symm e)]
 | cons a l ih=>
   simp only[List.map_cons,List.mem_cons,not_or] at h
   simp only[List.cons_append,bG]
   by_cases e:a.1=k
   ·rw[if_pos e,if_pos e,if_neg (by rintro rfl;exact h.1 e.symm)]
   ·rw[if_neg e,if_neg e,ih h.2]
theorem xC{α:Type}{l d:List (Int×α)}(hl:(l.map Prod.fst).Nodup)(hd:(d.map Prod.fst).Nodup)(h1:∀ p∈d,p∈l)(h2:∀ p∈l,p∈d)(k:Int):bG d k=bG l k:=by
 cases e:bG d k with
 | some a=>exact(im hl (h1 _ (oY e))).symm
 | none=>
   cases e2:bG l k with
   | none=>rfl
   | some a=>have:=im hd (h2 _ (oY e2));simp only at this;rw[e] at this;cases this
theorem lq{cs vs:List Value}(h:vs.length=cs.length):dx cs 0 vs=vs:=by
 apply List.ext_getElem?
 intro j
 rw[jw _ _ _ _ (by omega)]
 by_cases hj:j<vs.length
 ·rw[if_pos (by omega)];simp
 ·rw[if_neg (by omega),List.getElem?_eq_none (by omega),List.getElem?_eq_none (by omega)]
theorem r9{n j:Nat}{f:Nat→Int}(h:j<n):(tab n f).getD j 0=f j:=by simp[List.getD,dY h]
theorem nY(l:List Int):(l.map w64).all aN=true:=by simp[aN]
theorem uZ{kept:Nat→Int}{d:List (Int×List Int)}{k:Nat}{f:Nat→Int}(hn:(k:Int)∉d.map Prod.fst)(j:Nat):
 eM kept (qof (d++[((k:Int),tab 8 f)])) j=if k*8≤j∧j<k*8+8 then f (j - k*8) else eM kept (qof d) j:=by
 simp only[eM,qof]
 rw[sW hn]
 by_cases e:j / 8=k
 ·subst e
  rw[if_pos rfl,if_pos (by omega)]
  simp only[Option.map_some]
  rw[r9 (by omega)]
  congr 1;omega
 ·rw[if_neg (by omega),if_neg (by omega)]
theorem xT{kept:Nat→Int}{q:Nat→Option (Nat→Int)}{l d:List (Int×List Int)}{n:Nat}(hr:yh n q l)(hl:(l.map Prod.fst).Nodup)(hd:(d.map Prod.fst).Nodup)(h1:∀ p∈d,p∈l)(h2:∀ p∈l,p∈d):eM kept (qof d)=eM kept q:=by
 funext j
 simp only[eM,qof]
 rw[xC hl hd h1 h2,hr.get]
 cases q (j / 8) with
 | none=>rfl
 | some f=>simp only[Option.map_some];exact r9 (by omega)
theorem uC{n:Nat}{q:Nat→Option (Nat→Int)}{l:List (Int×List Int)}(h:yh n q l)(hl:(l.map Prod.fst).Nodup){p:Int×List Int}(hp:p∈l):∃ (k:Nat) (f:Nat→Int),p=((k:Int),tab 8 f)∧k*8+8≤n:=by
 have h0:=h.pos p hp
 have h1:=im hl hp
 have h2:=h.get p.1.toNat
 rw[show((p.1.toNat:Nat):Int)=p.1 by omega,h1] at h2
 cases e:q p.1.toNat with
 | none=>rw[e] at h2;cases h2
 | some f=>
   rw[e] at h2
   refine⟨p.1.toNat,f,?_,h.lt _ _ e⟩
   injection h2 with h2
   cases p;simp only at h0 h2 ⊢;rw[h2,Int.toNat_of_nonneg h0]
theorem sS{d l:List Int}(hd:d.Nodup)(h:∀ x∈d,x∈l):d.length≤l.length:=by
 induction d generalizing l with
 | nil=>simp
 | cons a d ih=>
   rw[List.nodup_cons] at hd
   have ha:=h a (by simp)
   have:=ih (l:=l.erase a) hd.2 (fun x hx=>(List.mem_erase_of_ne (by rintro rfl;exact hd.1 hx)).2 (h x (by simp[hx])))
   rw[List.length_erase_of_mem ha] at this
   have:=List.length_pos_of_mem ha
   simp;omega
theorem iG{α:Type}{l d:List (Int×α)}{p:Int×α}(hd:((d++[p]).map Prod.fst).Nodup)(h:∀ x∈d++[p],x∈l):d.length<l.length:=by
 have:=sS (l:=l.map Prod.fst) hd (fun x hx=>by
  obtain⟨y,hy,rfl⟩:=List.mem_map.1 hx
  exact List.mem_map_of_mem (h y hy))
 simp at this;omega
theorem Holds.iter_w{B:World}{H:List HP}{α:Type}{kk:IntKind}{enc:α→Value}{r it:Nat}{l done:List (Int×α)}{U:List (Int×α)→List HP}{E:List HP}{w:World}(h:Holds B H w)[m:j0 H it kk enc r l done U E]:(l.map Prod.fst).Nodup∧(done.map Prod.fst).Nodup∧∀ p∈done,p∈l:=by
 obtain⟨bn,c,_,_,h3,h4,h5⟩:=m.obj h
 exact⟨h3.keys,h5,h4⟩
theorem iH{B:World}{n:Nat}{D:List Deferred}{σ:Env}{H:List HP}{K:Act→World→Prop}{α:Type}{kk:IntKind}{enc:α→Value}{r:Nat}(it:Nat){l done:List (Int×α)}{U:List (Int×α)→List HP}{E:List HP}[m:j0 H it kk enc r l done U E](h:(l.map Prod.fst).Nodup→(done.map Prod.fst).Nodup→(∀ p∈done,p∈l)→GO B n D σ H K):GO B n D σ H K:=fun a w st=>by
 obtain⟨h1,h2,h3⟩:=st.holds.iter_w (it:=it)
 exact h h1 h2 h3 a w st
theorem eW(B:World)(Fr:List HP)(b:Nat)(s:Dev):
 ∀ w,Holds B (ax b s::Fr) w→Calls Tryz.prog 106 [ptr b].toArray w (Ret B (fun rv H'=>∃ s',okV B2 (s.fence) rv s'∧H'=ax b s'::Fr) (fun c H'=>∃ s',CL (s.fence) c s'∧H'=ax b s'::Fr)):=by
 refine ak func106 aa ntmps106 aa (iS fun bn bk bq rest l hw=> ?_)
 have hw1:=hw.line
 have hw2:=hw.pos
 have hw3:=hw.le
 refine ac (ab (kPf me isAgg106 aa aa aa aa ?_))
 refine aQ aa (ar call156 aa) (cS (fun Fr=>lJ _ Fr _ _)) .free aa aa ?_ ?_
 rotate_left
 ·rintro _ _ ⟨_,⟨ho,rfl,rfl⟩,rfl⟩
  exact aX fun w hh=>⟨_,⟨s,⟨by simp[Dev.fence,ho],rfl⟩,rfl⟩,c9 hw hh⟩
 rintro _ _ ⟨_,⟨ho,rfl,rfl⟩,rfl⟩
 refine ad (ac (ac (ab (kPf kx isAgg159 aa aa aa aa (kPb (mp runUnderlying159 aa) aa fun it=>(ad (aj [13,0] rfl (aI (dF (ι:=List (Int×List Int)) (fun d=>d.length≤l.length) (fun d=>[(0,ptr b),(13,.pointer (some ⟨it,0,none⟩))]) (fun done=>row b [.pointer (some ⟨s.pa,0,none⟩),.slice (some ⟨bn,0,none⟩) s.n s.n,.slice (some ⟨bk,0,none⟩) s.n (s.n+rest.length),.map (some bq)] 161::row bn (tab s.n fun i=>w64 (s.now i)) 24::row bk (tab s.n (fun i=>w64 (eM s.kept (qof done) i))++rest) 24::fO .i64 pY bq it l done::iY s.pa s.pow.up::Fr) (fun d=>l.length - d.length) [] (Nat.zero_le _) (fun a w st=>st.to ⟨rfl,rfl,trivial⟩ id) ?_)))))))))
 intro done hdone
 refine ac (ab (cX aa (nV aa) .free aa aa ?_))
 rintro _ _ ⟨bb,vs,done',rfl,hvs,rfl,hno,hyes⟩
 refine kPv (az aa hvs) aa (ad (ac ?_))
 refine aV aa (fun h15=> ?_) (fun h15=> ?_)
 ·obtain⟨pp,hpl,hpn,rfl⟩:=hyes h15
  refine iH it fun hl hd hsub=> ?_
  obtain⟨k,f,rfl,hk⟩:=uC hw.rep hl hpl
  refine aw (aI (ac (ab (kPv (mm (p0:=((k:Int),tab 8 f)) (dn:=done) aa) aa (kPv (az aa aa) aa (kPv (az aa aa) aa (kPb (aD zeroValue162 aa) aa fun b3=>(kPa aa aa (kPs (aA (vs:=(tab 8 f).map w64) sizeOf162 aa aa (by rw[List.length_map,aW]) (nY _) (by rw[List.length_map,aW];rfl)) aa (ad (cH 8 Tryz.mixed (by kernel_rfl) (by kernel_rfl) ?_)))))))))))
  refine kQm aa aa (kQv (aF aa) aa (kQv (aC (m:=_) ky aa aa) aa (kQv (ag isAgg22 aa aa) aa (kQm aa aa (kQv (mR (c:=((k*8:Nat):Int)) aa aa (by rw[hG (by omega)];omega)) aa (kQv (kC (m:=k*8) (h:=s.n) runUnderlying22 sizeOf24 aa (.yes aa) .no (by omega) (by omega) (.inl (by omega)) (by omega)) aa (kQv (mQ (m:=0) (l:=0) (h:=8) runUnderlying162 sizeOf24 aa .no .no (by omega) (by omega) (.inr aa) (by omega)) aa (bM (cX aa (nW (n:=8) (cs:=(tab 8 f).map w64) aa runUnderlying22 sizeOf24 aa aa (SlR.row (by rw[lq (by rw[List.length_map,aW];rfl),List.drop_zero,List.take_of_length_le (by rw[List.length_map,aW];omega)]) (by rw[List.length_map,aW])) (by rw[List.length_map,aW];omega) (by rw[List.length_append,aW];omega) (nY _)) .free aa aa ?_)))))))))
  rintro _ _ ⟨rfl,rfl⟩
  refine ad (aj [13,0] rfl (cE (σ':=[(0,_),(13,_)]) ⟨rfl,rfl,trivial⟩ ?_))
  exact fun a w st=>⟨done++[((k:Int),tab 8 f)],by have:=iG hd hsub;simp;omega,by have:=iG hd hsub;simp;omega,st.to ⟨rfl,rfl,trivial⟩ (fun hh=>by
   have h:=hh.tail
   rw[List.take_of_length_le (by rw[List.length_map,aW];omega),lK,ur hk] at h
   have e:(tab s.n fun j=>if k*8≤j∧j<k*8+8 then w64 (f (j - k*8)) else w64 (eM s.kept (qof done) j))=tab s.n fun j=>w64 (eM s.kept (qof (done++[((k:Int),tab 8 f)])) j):=eV fun j _=>by
    rw[uZ hpn];split<;>rfl
   rw[e] at h
   exact h)⟩
 ·obtain⟨rfl,hall⟩:=hno h15
  refine iH it fun hl hd hsub=> ?_
  rw[xT hw.rep hl hd hsub hall]
  refine aK (fun w hh=>hh.iter_end it) (bJ (ab (kPf kx isAgg159 aa aa aa aa (kPs (mq aa runUnderlying159 aa) aa (ad (aj [] rfl ?_))))))
  exact cG results106 (fun w hh=>by
   refine⟨_,⟨s.up.fe,⟨(),by simp[Dev.fence,ho],rfl⟩,rfl⟩,c9 (s:=s.up.fe) (bn:=bn) (bk:=bk) (bq:=bq) (rest:=rest) (l:=[]) ⟨hw.line,hw.pos,hw.le,oH _⟩ hh⟩)
theorem xu(B:World)(Fr:List HP)(b:Nat)(s:Dev):
 ∀ w,Holds B (ax b s::Fr) w→Calls Tryz.prog 112 [ptr b].toArray w (Ret B (fun rv H'=>∃ bw rest,rv= .slice (some ⟨bw,0,none⟩) s.n (s.n+rest.length)∧H'=row bw (tab s.n (fun i=>w64 (s.now i))++rest) 24::ax b s::Fr) (fun _ _=>False)):=by
 refine ak func112 aa ntmps112 aa (iS fun bn bk bq rest l hw=> ?_)
 have hw1:=hw.line
 have hw2:=hw.pos
 have hw3:=hw.le
 refine ac (ab (kPa aa aa (ad (ac (ab (kPf ge isAgg22 aa aa aa aa ?_))))))
 refine aE aa (ar call120 aa) (iz _ _ _ _ _ (tab s.n fun i=>w64 (s.now i)) (by simp) (by rw[aW];omega) (by simp[tab,aN]) (SlR.row (by first | (rw[List.drop_zero,List.take_of_length_le (by rw[aW];omega)]) | (rw[List.drop_zero,List.take_append_of_le_length (by rw[aW];omega),List.take_of_length_le (by rw[aW];omega)])) (by rw[aW]))) .free aa aa ?_
 rintro _ _ ⟨bw,rest',rfl,rfl⟩
 refine kPa aa aa (ad (au ?_))
 exact aq results112 aa (fun w hh=>⟨_,⟨bw,rest',rfl,rfl⟩,(c9 (Fr:=row bw _ _::Fr) hw (hh.back 5 (by simp))).front 1 aa⟩)
theorem ze(B:World)(Fr:List HP)(b:Nat)(s:Dev):
 ∀ w,Holds B (ax b s::Fr) w→Calls Tryz.prog 57 [ptr b].toArray w (Ret B (fun rv H'=>∃ bw rest,rv= .slice (some ⟨bw,0,none⟩) s.n (s.n+rest.length)∧H'=row bw (tab s.n (fun i=>w64 (s.kept i))++rest) 24::ax b s::Fr) (fun _ _=>False)):=by
 refine ak func57 aa ntmps57 aa (iS fun bn bk bq rest l hw=> ?_)
 have hw1:=hw.line
 have hw2:=hw.pos
 have hw3:=hw.le
 refine ac (ab (kPa aa aa (ad (ac (ab (kPf ky isAgg22 aa aa aa aa ?_))))))
 refine aE aa (ar call120 aa) (iz _ _ _ _ _ (tab s.n fun i=>w64 (s.kept i)) (by simp) (by rw[aW];omega) (by simp[tab,aN]) (SlR.row (by first | (rw[List.drop_zero,List.take_of_length_le (by rw[aW];omega)]) | (rw[List.drop_zero,List.take_append_of_le_length (by rw[aW];omega),List.take_of_length_le (by rw[aW];omega)])) (by rw[aW]))) .free aa aa ?_
 rintro _ _ ⟨bw,rest',rfl,rfl⟩
 refine kPa aa aa (ad (au ?_))
 exact aq results57 aa (fun w hh=>⟨_,⟨bw,rest',rfl,rfl⟩,(c9 (Fr:=row bw _ _::Fr) hw (hh.back 5 (by simp))).front 1 aa⟩)
theorem ru(B:World)(Fr:List HP)(pa:Nat)(pw:Pow)(sv:Value)(xs:List Int)(hx0:0<xs.length)(hx1:xs.length≤100000)(hr:SlR B Fr sv (xs.map w64)):
 ∀ w,Holds B (iY pa pw::Fr) w→Calls Tryz.prog 55 [ptr pa,sv].toArray w (Ret B (fun rv H'=>∃ b,rv=ptr b∧H'=ax b ⟨pa,pw,(xs.length+7) / 8*8,fun i=>xs.getD i 0,fun i=>xs.getD i 0,fun _=>none⟩::Fr) (fun _ _=>False)):=by
 refine ak func55 aa ntmps55 aa ?_
 obtain⟨qa,qc,rfl,hqc⟩:=hr.ex
 rw[List.length_map] at hqc ⊢
 generalize hN:(xs.length+7) / 8*8=N
 rw[List.length_map] at hr
 refine ac (ab (kPa aa aa (ad (ac (ab (kPm aa aa (kPv (bS aa runUnderlying22 ⟨_,rfl⟩ rfl) aa (kPv (iT (c:=((xs.length+8:Nat):Int)) aa aa (by rw[hG (by omega)];omega)) aa (kPv (mP (c:=((xs.length+7:Nat):Int)) aa aa (by rw[hG (by omega)];omega)) aa (kPv (ly aa aa (by decide) (CA (by omega))) aa (kPv (mR (c:=(N:Int)) aa aa (by rw[hG (by omega)];omega)) aa ?_)))))))))))
 refine kPa aa aa (ad (ac (ab (kPm aa aa (kPb (kX runUnderlying22 gh sizeOf24 zeroValue24 aa aa aa (by omega)) aa fun bn=>(kPa aa aa (ad (aj [6,4,0,1] rfl (ac (ab (kPm aa aa ?_)))))))))))
 refine kPm aa aa (cX aa (nW (n:=xs.length) (cs:=xs.map w64) aa runUnderlying22 sizeOf24 aa aa ((hr.cons _).cons _) (by rw[List.length_map];omega) (by simp;omega) (nY _)) .free aa aa ?_)
 rintro _ _ ⟨rfl,rfl⟩
 rw[List.take_of_length_le (by simp),xx (by omega)]
 refine ad (ac (ab (kPm aa aa (kPm aa aa (kPm aa aa (aE aa (ar call120 aa) (iz _ _ _ _ _ (tab N fun i=>w64 (xs.getD i 0)) (by simp) (by rw[aW];omega) (by simp[tab,aN]) (SlR.row (by rw[List.drop_zero,List.take_of_length_le (by rw[aW];omega)]) (by rw[aW]))) .free aa aa ?_))))))
 rintro _ _ ⟨bk,rest',rfl,rfl⟩
 refine kPb (dP .i64 pY) aa fun bq=> ?_
 refine ao aa (aR aa (jZ _ _ _ _ (by first | rfl | assumption) (by first | rfl | assumption) (by first | rfl | assumption) (by first | rfl | assumption))) .free rfl rfl ?_;refine kPb (aY aa) aa fun b24=> ?_;refine kPa aa aa ?_;refine ad ?_;refine aj [4] rfl ?_;refine au ?_
 exact aq results55 aa (fun w hh=>⟨_,⟨_,rfl,rfl⟩,c9 (s:=⟨pa,pw,N,fun i=>xs.getD i 0,fun i=>xs.getD i 0,fun _=>none⟩) (rest:=rest') (l:=[]) ⟨by simp only;omega,by simp only;omega,by simp only;omega,oH _⟩ ((((hh.front 1 aa).front 2 aa).front 3 aa).front 3 aa)⟩)
def cgo(s:Dev)(c:Nat→Int)(i:Nat)(j:Nat):Value:=w64 (if j<i then (s.crash c).kept j else s.kept j)
theorem gR{s:Dev}{c:Nat→Int}{i:Nat}(h:(s.crash c).kept i=s.kept i):cgo s c (i+1)=cgo s c i:=by
 funext j
 simp only[cgo]
 by_cases e:j=i
 ·subst e;simp[h]
 ·by_cases e2:j<i
  ·rw[if_pos e2,if_pos (by omega)]
  ·rw[if_neg e2,if_neg (by omega)]
theorem iN{s:Dev}{c:Nat→Int}{i n:Nat}{rest:List Value}{x:Int}(hi:i<n)(h:(s.crash c).kept i=x):(tab n (cgo s c i)++rest).set (0+(i:Int).toNat) (w64 x)=tab n (cgo s c (i+1))++rest:=by
 rw[Nat.zero_add,Int.toNat_natCast,List.set_append_left _ _ (by rw[aW];exact hi),nK]
 congr 1
 refine eV fun j _=> ?_
 simp only[upd,cgo]
 by_cases e:j=i
 ·subst e;simp[h]
 ·rw[if_neg e]
  by_cases e2:j<i
  ·rw[if_pos e2,if_pos (by omega)]
  ·rw[if_neg e2,if_neg (by omega)]
theorem Au(s:Dev)(c:Nat→Int):cgo s c 0=fun j=>w64 (s.kept j):=by funext j;simp[cgo]
theorem BR(s:Dev)(c:Nat→Int):tab s.n (cgo s c s.n)=tab s.n fun j=>w64 ((s.crash c).kept j):=eV fun j hj=>by simp[cgo,hj]
theorem CN{s:Dev}{l:List (Int×List Int)}(hw:AG s l)(k:Nat):(Value.tuple #[pV pY (.agg #[.int .u64 0,.int .u64 0,.int .u64 0,.int .u64 0,.int .u64 0,.int .u64 0,.int .u64 0,.int .u64 0]) (bG l (k:Int)),.bool (bG l (k:Int)).isSome])= .tuple #[pY (tab 8 ((s.q k).getD fun _=>0)),.bool (s.q k).isSome]:=by
 rw[hw.rep.get]
 cases s.q k<;>rfl
structure wY(B:World)(Fr:List HP)(g:FuncId)(cap:List Value)(n:Nat)(c:Nat→Int):Prop where
 enter:∀ args w,(callFunc g args).run Tryz.prog w= .ok (.enter g args) w
 pos:∀ i,0≤c i
 says:∀ (H:List HP) [iR H Fr] (i:Nat),i<n→∀ w,Holds B H w→Calls Tryz.prog g ([]++[i64 i]++cap).toArray w (aZ B H (.int .u8 (c i)))
theorem qs(B:World)(Fr:List HP)(b:Nat)(s:Dev)(g:FuncId)(cap:List Value)(c:Nat→Int)(hg:wY B Fr g cap s.n c):
 ∀ w,Holds B (ax b s::Fr) w→Calls Tryz.prog 49 [ptr b,.func (.func g) [].toArray cap.toArray].toArray w (Ret B (fun _ H'=>H'=ax b (s.crash c)::Fr) (fun _ _=>False)):=by
 refine ak func49 aa ntmps49 aa (iS fun bn bk bq rest l hw=> ?_)
 have hw1:=hw.line
 have hw2:=hw.pos
 have hw3:=hw.le
 refine ac (ac (ab (kPf ge isAgg22 aa aa aa aa (kPv (bS aa runUnderlying22 ⟨_,rfl⟩ rfl) aa (kPm aa aa (ad (aI ?_)))))))
 rw[←Au s c]
 refine dF (ι:=Nat) (fun i=>i≤s.n) (fun i=>[(0,ptr b),(1,.func (.func g) [].toArray cap.toArray),(11,i64 s.n),(12,i64 i)]) (fun i=>row b [.pointer (some ⟨s.pa,0,none⟩),.slice (some ⟨bn,0,none⟩) s.n s.n,.slice (some ⟨bk,0,none⟩) s.n (s.n+rest.length),.map (some bq)] 161::row bn (tab s.n fun i=>w64 (s.now i)) 24::row bk (tab s.n (cgo s c (i))++rest) 24::bB .i64 pY bq l::iY s.pa s.pow::Fr) (fun i=>s.n - i) 0 (Nat.zero_le _) (fun a w st=>st.to ⟨rfl,rfl,rfl,rfl,trivial⟩ id) ?_
 intro i hi
 refine ac (ab (kPv (am aa aa aa) aa (ad (ac ?_))))
 refine aV aa (fun h13=> ?_) (fun h13=> ?_)
 ·have hin:i<s.n:=by simpa using h13
  refine aw (ac (aI (ac (ab (kPm aa aa (kPa aa aa (ad (ac (ab (kPf kx isAgg159 aa aa aa aa (kPm aa aa ?_)))))))))))
  refine kPv (ly aa aa (by decide) (CA (by omega))) aa (kPv ((eR runUnderlying159 runUnderlying3 zeroValue162 aa aa).eq (CN hw (i / 8))) aa (kPm aa aa (kPv (az aa aa) aa (kPv (az aa aa) aa (kPb (aD zeroValue162 aa) aa fun b5=>(kPs (aA (vs:=(tab 8 ((s.q (i / 8)).getD fun _=>0)).map w64) sizeOf162 aa aa (by rw[List.length_map,aW]) (nY _) (by rw[List.length_map,aW];rfl)) aa (kPa aa aa (ad (aj [6,5,4,12,11,0,1] rfl (ac (ab ?_)))))))))))
  refine kPm aa aa (kPm aa aa ?_)
  refine ap aa (fa hg.enter aa aa) (hg.says _ i hin) .free aa aa ?_
  refine kPv (et (c:=c i%3) aa aa (by decide) (Int.tmod_eq_emod_of_nonneg (hg.pos i))) aa (ad (aI (ac (ab (kPv (am aa aa aa) aa (kPa aa aa (ad ?_)))))))
  refine aV aa (fun h29=> ?_) (fun h29=> ?_)
  ·try simp only[decide_eq_true_eq,decide_eq_false_iff_not,Bool.not_eq_true',Bool.not_eq_false',Bool.or_eq_true,Bool.and_eq_true,Bool.and_eq_false_iff,Bool.or_eq_false_iff,beq_iff_eq,bne_iff_ne,beq_eq_false_iff_ne,bne_eq_false_iff_eq,ge_iff_le,gt_iff_lt,ne_eq] at h29
   refine ac (ab (kPm aa aa (ad (aj [31,5,4,12,11,0,1] rfl ?_))))
   refine aV aa (fun h31=> ?_) (fun h31=> ?_)
   ·try simp only[decide_eq_true_eq,decide_eq_false_iff_not,Bool.not_eq_true',Bool.not_eq_false',Bool.or_eq_true,Bool.and_eq_true,Bool.and_eq_false_iff,Bool.or_eq_false_iff,beq_iff_eq,bne_iff_ne,beq_eq_false_iff_ne,bne_eq_false_iff_eq,ge_iff_le,gt_iff_lt,ne_eq] at h31
    refine cH 10 Tryz.mixed (by kernel_rfl) (by kernel_rfl) ?_
    refine kQm aa aa (kQv (aF aa) aa (kQv (aC (m:=_) ky aa aa) aa (kQv (ag isAgg22 aa aa) aa (kQm aa aa (kQm aa aa (kQv (et aa aa (by decide) D2) aa (kQv (mS (m:=i%8) runUnderlying162 sizeOf24 aa aa (by omega) (by omega) (by omega)) aa (kQv (ag (v:=w64 (((s.q (i / 8)).getD fun _=>0) (i%8))) isAgg24 aa (by rw[lq (by rw[List.length_map,aW];rfl),lK,dY (by omega)])) aa (kQv (cC runUnderlying22 sizeOf24 aa aa (by omega) (by omega)) aa (bM (kPs (aO sizeOf24 aa aa aa (by rw[Nat.blt_eq,List.length_append,aW];omega)) aa ?_)))))))))))
    refine ad (aj [12,11,0,1] rfl (ab (kPv (aP aa aa) aa (kPm aa aa (ad ?_)))))
    first
     | exact fun a w st=>⟨i+1,by omega,by omega,st.to ⟨rfl,rfl,rfl,rfl,trivial⟩ (fun hh=>by
      have h:=hh.tail
      rw[iN hin (by(try simp only[beq_iff_eq] at h29);simp only[Dev.crash];rw[if_pos h29];unfold eM;cases hq:s.q (i / 8) with | none=>simp[hq] at h31 | some f=>rfl)] at h
      exact h)⟩
     | exact fun a w st=>⟨i+1,by omega,by omega,st.to ⟨rfl,rfl,rfl,rfl,trivial⟩ (fun hh=>by
      have h:=hh.tail
      rw[iN hin (by(try simp only[beq_eq_false_iff_ne,beq_iff_eq] at h29 h42);simp only[Dev.crash];rw[if_neg h29,if_pos h42])] at h
      exact h)⟩
     | exact fun a w st=>⟨i+1,by omega,by omega,st.to ⟨rfl,rfl,rfl,rfl,trivial⟩ (fun hh=>by
      have h:=hh.tail
      rw[←gR (by(try simp only[beq_iff_eq] at h29);simp only[Dev.crash];rw[if_pos h29];unfold eM;cases hq:s.q (i / 8) with | some f=>simp[hq] at h31 | none=>rfl)] at h
      exact h)⟩
     | exact fun a w st=>⟨i+1,by omega,by omega,st.to ⟨rfl,rfl,rfl,rfl,trivial⟩ (fun hh=>by
      have h:=hh.tail
      rw[←gR (by(try simp only[beq_eq_false_iff_ne] at h29 h42);simp only[Dev.crash];rw[if_neg h29,if_neg h42])] at h
      exact h)⟩
   ·try simp only[decide_eq_true_eq,decide_eq_false_iff_not,Bool.not_eq_true',Bool.not_eq_false',Bool.or_eq_true,Bool.and_eq_true,Bool.and_eq_false_iff,Bool.or_eq_false_iff,beq_iff_eq,bne_iff_ne,beq_eq_false_iff_ne,bne_eq_false_iff_eq,ge_iff_le,gt_iff_lt,ne_eq] at h31
    refine aw (ab (kPv (aP aa aa) aa (kPm aa aa (ad ?_))))
    first
     | exact fun a w st=>⟨i+1,by omega,by omega,st.to ⟨rfl,rfl,rfl,rfl,trivial⟩ (fun hh=>by
      have h:=hh.tail
      rw[iN hin (by(try simp only[beq_iff_eq] at h29);simp only[Dev.crash];rw[if_pos h29];unfold eM;cases hq:s.q (i / 8) with | none=>simp[hq] at h31 | some f=>rfl)] at h
      exact h)⟩
     | exact fun a w st=>⟨i+1,by omega,by omega,st.to ⟨rfl,rfl,rfl,rfl,trivial⟩ (fun hh=>by
      have h:=hh.tail
      rw[iN hin (by(try simp only[beq_eq_false_iff_ne,beq_iff_eq] at h29 h42);simp only[Dev.crash];rw[if_neg h29,if_pos h42])] at h
      exact h)⟩
     | exact fun a w st=>⟨i+1,by omega,by omega,st.to ⟨rfl,rfl,rfl,rfl,trivial⟩ (fun hh=>by
      have h:=hh.tail
      rw[←gR (by(try simp only[beq_iff_eq] at h29);simp only[Dev.crash];rw[if_pos h29];unfold eM;cases hq:s.q (i / 8) with | some f=>simp[hq] at h31 | none=>rfl)] at h
      exact h)⟩
     | exact fun a w st=>⟨i+1,by omega,by omega,st.to ⟨rfl,rfl,rfl,rfl,trivial⟩ (fun hh=>by
      have h:=hh.tail
      rw[←gR (by(try simp only[beq_eq_false_iff_ne] at h29 h42);simp only[Dev.crash];rw[if_neg h29,if_neg h42])] at h
      exact h)⟩
  ·try simp only[decide_eq_true_eq,decide_eq_false_iff_not,Bool.not_eq_true',Bool.not_eq_false',Bool.or_eq_true,Bool.and_eq_true,Bool.and_eq_false_iff,Bool.or_eq_false_iff,beq_iff_eq,bne_iff_ne,beq_eq_false_iff_ne,bne_eq_false_iff_eq,ge_iff_le,gt_iff_lt,ne_eq] at h29
   refine ac (ab (kPv (am aa aa aa) aa (kPa aa aa (ad (aj [42,4,12,11,0,1] rfl ?_)))))
   refine aV aa (fun h42=> ?_) (fun h42=> ?_)
   ·try simp only[decide_eq_true_eq,decide_eq_false_iff_not,Bool.not_eq_true',Bool.not_eq_false',Bool.or_eq_true,Bool.and_eq_true,Bool.and_eq_false_iff,Bool.or_eq_false_iff,beq_iff_eq,bne_iff_ne,beq_eq_false_iff_ne,bne_eq_false_iff_eq,ge_iff_le,gt_iff_lt,ne_eq] at h42
    refine cH 13 Tryz.mixed (by kernel_rfl) (by kernel_rfl) ?_
    refine kQm aa aa (kQv (aF aa) aa (kQv (aC (m:=_) ky aa aa) aa (kQv (ag isAgg22 aa aa) aa (kQm aa aa (kQm aa aa (kQv (aF aa) aa (kQv (aC (m:=_) ge aa aa) aa (kQv (ag isAgg22 aa aa) aa (kQm aa aa (kQv (cC runUnderlying22 sizeOf24 aa aa (by omega) (by omega)) aa (kQv (ag (v:=w64 (s.now i)) isAgg24 aa (by rw[Nat.zero_add];exact dY (by omega))) aa ?_)))))))))))
    refine kQv (cC runUnderlying22 sizeOf24 aa aa (by omega) (by omega)) aa (bM (kPs (aO sizeOf24 aa aa aa (by rw[Nat.blt_eq,List.length_append,aW];omega)) aa (ad (aj [12,11,0,1] rfl (ab (kPv (aP aa aa) aa (kPm aa aa (ad ?_))))))))
    first
     | exact fun a w st=>⟨i+1,by omega,by omega,st.to ⟨rfl,rfl,rfl,rfl,trivial⟩ (fun hh=>by
      have h:=hh.tail
      rw[iN hin (by(try simp only[beq_iff_eq] at h29);simp only[Dev.crash];rw[if_pos h29];unfold eM;cases hq:s.q (i / 8) with | none=>simp[hq] at h31 | some f=>rfl)] at h
      exact h)⟩
     | exact fun a w st=>⟨i+1,by omega,by omega,st.to ⟨rfl,rfl,rfl,rfl,trivial⟩ (fun hh=>by
      have h:=hh.tail
      rw[iN hin (by(try simp only[beq_eq_false_iff_ne,beq_iff_eq] at h29 h42);simp only[Dev.crash];rw[if_neg h29,if_pos h42])] at h
      exact h)⟩
     | exact fun a w st=>⟨i+1,by omega,by omega,st.to ⟨rfl,rfl,rfl,rfl,trivial⟩ (fun hh=>by
      have h:=hh.tail
      rw[←gR (by(try simp only[beq_iff_eq] at h29);simp only[Dev.crash];rw[if_pos h29];unfold eM;cases hq:s.q (i / 8) with | some f=>simp[hq] at h31 | none=>rfl)] at h
      exact h)⟩
     | exact fun a w st=>⟨i+1,by omega,by omega,st.to ⟨rfl,rfl,rfl,rfl,trivial⟩ (fun hh=>by
      have h:=hh.tail
      rw[←gR (by(try simp only[beq_eq_false_iff_ne] at h29 h42);simp only[Dev.crash];rw[if_neg h29,if_neg h42])] at h
      exact h)⟩
   ·try simp only[decide_eq_true_eq,decide_eq_false_iff_not,Bool.not_eq_true',Bool.not_eq_false',Bool.or_eq_true,Bool.and_eq_true,Bool.and_eq_false_iff,Bool.or_eq_false_iff,beq_iff_eq,bne_iff_ne,beq_eq_false_iff_ne,bne_eq_false_iff_eq,ge_iff_le,gt_iff_lt,ne_eq] at h42
    refine aw (ab (kPv (aP aa aa) aa (kPm aa aa (ad ?_))))
    first
     | exact fun a w st=>⟨i+1,by omega,by omega,st.to ⟨rfl,rfl,rfl,rfl,trivial⟩ (fun hh=>by
      have h:=hh.tail
      rw[iN hin (by(try simp only[beq_iff_eq] at h29);simp only[Dev.crash];rw[if_pos h29];unfold eM;cases hq:s.q (i / 8) with | none=>simp[hq] at h31 | some f=>rfl)] at h
      exact h)⟩
     | exact fun a w st=>⟨i+1,by omega,by omega,st.to ⟨rfl,rfl,rfl,rfl,trivial⟩ (fun hh=>by
      have h:=hh.tail
      rw[iN hin (by(try simp only[beq_eq_false_iff_ne,beq_iff_eq] at h29 h42);simp only[Dev.crash];rw[if_neg h29,if_pos h42])] at h
      exact h)⟩
     | exact fun a w st=>⟨i+1,by omega,by omega,st.to ⟨rfl,rfl,rfl,rfl,trivial⟩ (fun hh=>by
      have h:=hh.tail
      rw[←gR (by(try simp only[beq_iff_eq] at h29);simp only[Dev.crash];rw[if_pos h29];unfold eM;cases hq:s.q (i / 8) with | some f=>simp[hq] at h31 | none=>rfl)] at h
      exact h)⟩
     | exact fun a w st=>⟨i+1,by omega,by omega,st.to ⟨rfl,rfl,rfl,rfl,trivial⟩ (fun hh=>by
      have h:=hh.tail
      rw[←gR (by(try simp only[beq_eq_false_iff_ne] at h29 h42);simp only[Dev.crash];rw[if_neg h29,if_neg h42])] at h
      exact h)⟩
 ·have hin:¬ i<s.n:=by simpa using h13
  obtain rfl:i=s.n:=by omega
  refine bJ (ac (ab (kPf kx isAgg159 aa aa aa aa (kPs (mq aa runUnderlying159 aa) aa (ad (aj [0] rfl (cH 8 Tryz.mixed (by kernel_rfl) (by kernel_rfl) ?_)))))))
  refine kQm aa aa (kQv (aF aa) aa (kQv (aC (m:=_) ge aa aa) aa (kQv (ag isAgg22 aa aa) aa (kQm aa aa (kQv (aF aa) aa (kQv (aC (m:=_) ky aa aa) aa (kQv (ag isAgg22 aa aa) aa (bM (cX aa (nW (n:=s.n) (cs:=tab s.n (cgo s c s.n)) aa runUnderlying22 sizeOf24 aa aa (SlR.row (by rw[List.drop_zero,List.take_append_of_le_length (by rw[aW];omega),List.take_of_length_le (by rw[aW];omega)]) (by rw[aW])) (by rw[aW];omega) (by rw[aW];omega) (by simp[tab,aN,cgo])) .free aa aa ?_)))))))))
  rintro _ _ ⟨rfl,rfl⟩
  refine ad (aj [] rfl ?_)
  exact cG results49 (fun w hh=>by
   rw[List.take_of_length_le (by rw[aW];omega),lq (by rw[aW,aW]),BR] at hh
   exact⟨_,rfl,c9 (s:=s.crash c) (bn:=bn) (bk:=bk) (bq:=bq) (rest:=rest) (l:=[]) ⟨hw.line,hw.pos,hw.le,oH _⟩ hh⟩)
structure Cfg where
 log:Int
 roots:Int
 space:Int
structure bx(c:Cfg):Prop where
 r1:1≤c.roots
 r2:c.roots≤16
 l1:c.roots+2≤c.log
 l2:c.log≤200
 s1:8≤c.space
 s2:c.space≤4096
def io(n:Int):Int:=(n+7) / 8*8
def Cfg.record(_:Cfg)(i:Int):Int:=16+4*i
def Cfg.active(c:Cfg):Int:=io (c.record c.log)
def Cfg.root(c:Cfg)(i:Int):Int:=c.active+2+i
def Cfg.frm(c:Cfg)(s:Int):Int:=io (c.root c.roots)+s*io c.space
def Cfg.words(c:Cfg):Int:=c.frm 2
abbrev dU(c:Cfg):Value:= .agg #[i64 c.log,i64 c.roots,i64 c.space]
theorem Cz{n:Int}(h:0≤n)(h2:n≤1000000000):IntKind.i64.wrap (n.tdiv 8)=n / 8:=by
 rw[Int.tdiv_eq_ediv_of_nonneg h,hG (by omega)]
theorem gb{n:Int}(h:0≤n):n≤io n∧io n≤n+7∧io n%8=0:=by unfold io;omega
theorem bx.act{c:Cfg}(h:bx c):16+4*c.log≤c.active∧c.active≤16+4*c.log+7∧c.active%8=0:=by
 have:=h.r1;have:=h.l1
 exact gb (n:=16+4*c.log) (by omega)
theorem o6(B:World)(H:List HP)(n:Int)(h:0≤n)(h2:n≤100000000):
 ∀ w,Holds B H w→Calls Tryz.prog 128 [i64 n].toArray w (aZ B H (i64 (io n))):=by
 refine ak func128 aa ntmps128 aa (ac (ab (kPa aa aa (ad (ac (ab (kPm aa aa (kPv (aP aa aa) aa (kPv (mP (c:=n+7) aa aa (by rw[hG (by omega)];omega)) aa (kPv (ly aa aa (by decide) (Cz (by omega) (by omega))) aa (kPv (mi aa aa) aa ?_)))))))))))
 refine kPa aa aa (ad (au ?_))
 exact aq results128 aa (fun w hw=>⟨rfl,hw⟩)
theorem gq(B:World)(H:List HP)(c:Cfg)(i:Int)(h:0≤i)(h2:i≤100000):
 ∀ w,Holds B H w→Calls Tryz.prog 107 [dU c,i64 i].toArray w (aZ B H (i64 (c.record i))):=by
 refine ak func107 aa ntmps107 aa (ac (ab (kPb (aY aa) aa fun b2=>(kPa aa aa (ad (ac (ab (kPm aa aa (kPv (mi aa aa) aa (kPv (aP aa aa) aa (kPa aa aa ?_)))))))))))
 refine ad (au ?_)
 exact aq results107 aa (fun w hw=>⟨rfl,hw.tail⟩)
theorem fS(B:World)(H:List HP)(c:Cfg)(hc:bx c):
 ∀ w,Holds B H w→Calls Tryz.prog 108 [dU c].toArray w (aZ B H (i64 c.active)):=by
 refine ak func108 aa ntmps108 aa ?_
 have hc1:=hc.r1
 have hc2:=hc.r2
 have hc3:=hc.l1
 have hc4:=hc.l2
 have hc5:=hc.s1
 have hc6:=hc.s2
 refine ac (ab (kPb (aY aa) aa fun b1=>(kPa aa aa (ad (ac (ab (kPv (ah isAgg39 sizeOf39 aa aa) aa ?_)))))))
 refine kPl jN isAgg3 aa aa aa aa (ap aa (ar call107 aa) (gq _ _ c _ (by omega) (by omega)) .free aa aa ?_)
 refine ap aa (ar call128 aa) (o6 _ _ _ (by simp only[Cfg.record];omega) (by simp only[Cfg.record];omega)) .free aa aa ?_
 refine kPa aa aa (ad (aj [2] rfl (au ?_)))
 exact aq results108 aa (fun w hw=>⟨rfl,hw.tail⟩)
theorem jz(B:World)(H:List HP)(c:Cfg)(hc:bx c)(i:Int)(h:0≤i)(h2:i≤100000):
 ∀ w,Holds B H w→Calls Tryz.prog 82 [dU c,i64 i].toArray w (aZ B H (i64 (c.root i))):=by
 refine ak func82 aa ntmps82 aa ?_
 have hc1:=hc.r1
 have hc2:=hc.r2
 have hc3:=hc.l1
 have hc4:=hc.l2
 have hc5:=hc.s1
 have hc6:=hc.s2
 have ha:=hc.act
 refine ac (ab (kPb (aY aa) aa fun b2=>(kPa aa aa (ad (ac (ab (kPv (ah isAgg39 sizeOf39 aa aa) aa ?_)))))))
 refine ap aa (ar call108 aa) (fS _ _ c hc) .free aa aa ?_
 refine kPv (aP aa aa) aa (kPm aa aa (kPv (aP aa aa) aa (kPa aa aa (ad (aj [4] rfl (au ?_))))))
 exact aq results82 aa (fun w hw=>⟨rfl,hw.tail⟩)
theorem jL(B:World)(H:List HP)(c:Cfg)(hc:bx c)(i:Int)(h:0≤i)(h2:i≤2):
 ∀ w,Holds B H w→Calls Tryz.prog 67 [dU c,i64 i].toArray w (aZ B H (i64 (c.frm i))):=by
 refine ak func67 aa ntmps67 aa ?_
 have hc1:=hc.r1
 have hc2:=hc.r2
 have hc3:=hc.l1
 have hc4:=hc.l2
 have hc5:=hc.s1
 have hc6:=hc.s2
 have ha:=hc.act
 have hr:0≤c.root c.roots∧c.root c.roots≤2000:=by simp only[Cfg.root];omega
 have hl:=gb hr.1
 have hs:=gb (n:=c.space) (by omega)
 have hm:0≤i*io c.space∧i*io c.space≤2*5000:=⟨Int.mul_nonneg h (by omega),Int.mul_le_mul h2 (by omega) (by omega) (by omega)⟩
 refine ac (ab (kPb (aY aa) aa fun b2=>(kPa aa aa (ad (ac (cN Tryz.mixed (by kernel_rfl) (by kernel_rfl) ?_))))))
 refine kQv (ah isAgg39 sizeOf39 aa aa) aa ?_
 refine kQv (aC (m:=_) gc aa aa) aa (kQv (ag isAgg3 aa aa) aa (bj aa (ar call82 aa) (jz _ _ c hc _ (by omega) (by omega)) .free aa ?_))
 refine bj aa (ar call128 aa) (o6 _ _ _ hr.1 (by have:=hr.2;omega)) .free aa ?_
 refine kQm aa aa (kQv (aC (m:=_) gD aa aa) aa (kQv (ag isAgg3 aa aa) aa (bj aa (ar call128 aa) (o6 _ _ _ (by omega) (by omega)) .free aa ?_)))
 refine kQv (mi aa aa) aa (kQv (aP aa aa) aa (kQa aa aa (bM (aj [4] rfl (au ?_)))))
 exact aq results67 aa (fun w hw=>⟨rfl,hw.tail⟩)
theorem gy(B:World)(H:List HP)(c:Cfg)(hc:bx c):
 ∀ w,Holds B H w→Calls Tryz.prog 23 [dU c].toArray w (aZ B H (i64 c.words)):=by
 refine ak func23 aa ntmps23 aa (ac (ab (kPb (aY aa) aa fun b1=>(kPa aa aa (ad (ac (ab (kPv (ah isAgg39 sizeOf39 aa aa) aa ?_))))))))
 refine ap aa (ar call67 aa) (jL _ _ c hc _ (by omega) (by omega)) .free aa aa ?_
 refine kPa aa aa (ad (au ?_))
 exact aq results23 aa (fun w hw=>⟨rfl,hw.tail⟩)
theorem tN(B:World)(H:List HP)(c:Cfg)(hc:bx c):
 ∀ w,Holds B H w→Calls Tryz.prog 139 [dU c].toArray w (aZ B H (i64 (c.active+1))):=by
 refine ak func139 aa ntmps139 aa ?_
 have hc1:=hc.r1
 have hc2:=hc.r2
 have hc3:=hc.l1
 have hc4:=hc.l2
 have hc5:=hc.s1
 have hc6:=hc.s2
 have ha:=hc.act
 refine ac (ab (kPb (aY aa) aa fun b1=>(kPa aa aa (ad (ac (ab (kPv (ah isAgg39 sizeOf39 aa aa) aa ?_)))))))
 refine ap aa (ar call108 aa) (fS _ _ c hc) .free aa aa ?_
 refine kPv (aP aa aa) aa (kPa aa aa (ad (au ?_)))
 exact aq results139 aa (fun w hw=>⟨rfl,hw.tail⟩)
instance (c:Cfg):Decidable (bx c):=decidable_of_iff (1≤c.roots∧c.roots≤16∧c.roots+2≤c.log∧c.log≤200∧8≤c.space∧c.space≤4096) ⟨fun ⟨a,b,c,d,e,f⟩=>⟨a,b,c,d,e,f⟩,fun ⟨a,b,c,d,e,f⟩=>⟨a,b,c,d,e,f⟩⟩
end Go.Proofs.YtipdhkmphngmoaaGreatDoor
