/- Part of a law's texts. Conditions: none. -/
import Derived.Test.YtlcibdhmgclfjaaGreatQL17Rd
import Derived.Test.YtlcibdhmgclfjaaGreatRows
open Go.Proofs.Tryz
set_option linter.all false
namespace Go.Proofs.YtlcibdhmgclfjaaGreat
open Go
theorem bD{P:Program}{S f sz:Nat}{fs:Array Field}(t off:Nat)(hS:∀ w,(underlying S).run P w= .ok (.struct fs) w)(hf:(fs[f]?).map (fun fd=>(fd.type,fd.offset))=some (t,off))(hz:∀ w,(sizeOf t).run P w= .ok sz w)(h0:sz≠0)(b k:Nat)(w:World):
 (Instr.fieldAt S (.pointer (some ⟨b,k,none⟩)) f).run P w= .ok (.pointer (some ⟨b,k+off,none⟩)) w:=by
 have ha:(⟨b,k,none⟩:Addr).add off=⟨b,k+off,none⟩:=by
  unfold Addr.add;split
  ·rename_i e;rw[e];rfl
  ·rfl
 cases e:fs[f]? with
 | none=>rw[e] at hf;cases hf
 | some fd=>
   rw[e] at hf
   simp only[Option.map_some,Option.some.injEq,Prod.mk.injEq] at hf
   obtain⟨h1,h2⟩:=hf
   subst h1;subst h2
   simp[Instr.fieldAt,hS,e,Instr.sureAddr,fieldPlace,hz,h0,ha]
theorem Tryz.mixed:Tryz.prog.follows .mixedOrders=true:=by kernel_rfl
theorem Dm:∀ b k w,(Instr.fieldAt 24 (.pointer (some ⟨b,k,none⟩)) 0).run Tryz.prog w= .ok (.pointer (some ⟨b,k+0,none⟩)) w:=bD 22 0 runUnderlying24 rfl sizeOf22 (by decide)
theorem Dl:∀ b k w,(Instr.fieldAt 24 (.pointer (some ⟨b,k,none⟩)) 1).run Tryz.prog w= .ok (.pointer (some ⟨b,k+1,none⟩)) w:=bD 22 1 runUnderlying24 rfl sizeOf22 (by decide)
theorem Dk:∀ b k w,(Instr.fieldAt 24 (.pointer (some ⟨b,k,none⟩)) 2).run Tryz.prog w= .ok (.pointer (some ⟨b,k+2,none⟩)) w:=bD 22 2 runUnderlying24 rfl sizeOf22 (by decide)
theorem fp:∀ b k w,(Instr.fieldAt 38 (.pointer (some ⟨b,k,none⟩)) 0).run Tryz.prog w= .ok (.pointer (some ⟨b,k+0,none⟩)) w:=bD 3 0 runUnderlying38 rfl sizeOf3 (by decide)
theorem fP:∀ b k w,(Instr.fieldAt 38 (.pointer (some ⟨b,k,none⟩)) 1).run Tryz.prog w= .ok (.pointer (some ⟨b,k+1,none⟩)) w:=bD 3 1 runUnderlying38 rfl sizeOf3 (by decide)
theorem jM:∀ b k w,(Instr.fieldAt 40 (.pointer (some ⟨b,k,none⟩)) 0).run Tryz.prog w= .ok (.pointer (some ⟨b,k+0,none⟩)) w:=bD 3 0 runUnderlying40 rfl sizeOf3 (by decide)
theorem fm:∀ b k w,(Instr.fieldAt 40 (.pointer (some ⟨b,k,none⟩)) 1).run Tryz.prog w= .ok (.pointer (some ⟨b,k+1,none⟩)) w:=bD 3 1 runUnderlying40 rfl sizeOf3 (by decide)
theorem dX:∀ b k w,(Instr.fieldAt 40 (.pointer (some ⟨b,k,none⟩)) 2).run Tryz.prog w= .ok (.pointer (some ⟨b,k+2,none⟩)) w:=bD 3 2 runUnderlying40 rfl sizeOf3 (by decide)
theorem ge:∀ b k w,(Instr.fieldAt 45 (.pointer (some ⟨b,k,none⟩)) 0).run Tryz.prog w= .ok (.pointer (some ⟨b,k+0,none⟩)) w:=bD 40 0 runUnderlying45 rfl sizeOf40 (by decide)
theorem mm:∀ b k w,(Instr.fieldAt 45 (.pointer (some ⟨b,k,none⟩)) 1).run Tryz.prog w= .ok (.pointer (some ⟨b,k+3,none⟩)) w:=bD 41 3 runUnderlying45 rfl sizeOf41 (by decide)
theorem fO:∀ b k w,(Instr.fieldAt 45 (.pointer (some ⟨b,k,none⟩)) 2).run Tryz.prog w= .ok (.pointer (some ⟨b,k+4,none⟩)) w:=bD 3 4 runUnderlying45 rfl sizeOf3 (by decide)
theorem eK:∀ b k w,(Instr.fieldAt 45 (.pointer (some ⟨b,k,none⟩)) 3).run Tryz.prog w= .ok (.pointer (some ⟨b,k+5,none⟩)) w:=bD 41 5 runUnderlying45 rfl sizeOf41 (by decide)
theorem ew:∀ b k w,(Instr.fieldAt 45 (.pointer (some ⟨b,k,none⟩)) 4).run Tryz.prog w= .ok (.pointer (some ⟨b,k+6,none⟩)) w:=bD 4 6 runUnderlying45 rfl sizeOf4 (by decide)
theorem iY:∀ b k w,(Instr.fieldAt 45 (.pointer (some ⟨b,k,none⟩)) 5).run Tryz.prog w= .ok (.pointer (some ⟨b,k+7,none⟩)) w:=bD 42 7 runUnderlying45 rfl sizeOf42 (by decide)
theorem mj:∀ b k w,(Instr.fieldAt 45 (.pointer (some ⟨b,k,none⟩)) 6).run Tryz.prog w= .ok (.pointer (some ⟨b,k+8,none⟩)) w:=bD 41 8 runUnderlying45 rfl sizeOf41 (by decide)
theorem gb:∀ b k w,(Instr.fieldAt 45 (.pointer (some ⟨b,k,none⟩)) 7).run Tryz.prog w= .ok (.pointer (some ⟨b,k+9,none⟩)) w:=bD 43 9 runUnderlying45 rfl sizeOf43 (by decide)
theorem fk:∀ b k w,(Instr.fieldAt 45 (.pointer (some ⟨b,k,none⟩)) 8).run Tryz.prog w= .ok (.pointer (some ⟨b,k+10,none⟩)) w:=bD 3 10 runUnderlying45 rfl sizeOf3 (by decide)
theorem ur:∀ b k w,(Instr.fieldAt 45 (.pointer (some ⟨b,k,none⟩)) 9).run Tryz.prog w= .ok (.pointer (some ⟨b,k+11,none⟩)) w:=bD 3 11 runUnderlying45 rfl sizeOf3 (by decide)
theorem uq:∀ b k w,(Instr.fieldAt 58 (.pointer (some ⟨b,k,none⟩)) 0).run Tryz.prog w= .ok (.pointer (some ⟨b,k+0,none⟩)) w:=bD 3 0 runUnderlying58 rfl sizeOf3 (by decide)
theorem uo:∀ b k w,(Instr.fieldAt 58 (.pointer (some ⟨b,k,none⟩)) 1).run Tryz.prog w= .ok (.pointer (some ⟨b,k+1,none⟩)) w:=bD 3 1 runUnderlying58 rfl sizeOf3 (by decide)
theorem Dj:∀ b k w,(Instr.fieldAt 58 (.pointer (some ⟨b,k,none⟩)) 2).run Tryz.prog w= .ok (.pointer (some ⟨b,k+2,none⟩)) w:=bD 3 2 runUnderlying58 rfl sizeOf3 (by decide)
theorem Di:∀ b k w,(Instr.fieldAt 58 (.pointer (some ⟨b,k,none⟩)) 3).run Tryz.prog w= .ok (.pointer (some ⟨b,k+3,none⟩)) w:=bD 3 3 runUnderlying58 rfl sizeOf3 (by decide)
theorem Dh:∀ b k w,(Instr.fieldAt 58 (.pointer (some ⟨b,k,none⟩)) 4).run Tryz.prog w= .ok (.pointer (some ⟨b,k+4,none⟩)) w:=bD 4 4 runUnderlying58 rfl sizeOf4 (by decide)
theorem Dg:∀ b k w,(Instr.fieldAt 68 (.pointer (some ⟨b,k,none⟩)) 0).run Tryz.prog w= .ok (.pointer (some ⟨b,k+0,none⟩)) w:=bD 5 0 runUnderlying68 rfl sizeOf5 (by decide)
theorem yQ:∀ b k w,(Instr.fieldAt 68 (.pointer (some ⟨b,k,none⟩)) 1).run Tryz.prog w= .ok (.pointer (some ⟨b,k+1,none⟩)) w:=bD 5 1 runUnderlying68 rfl sizeOf5 (by decide)
theorem lk:∀ b k w,(Instr.fieldAt 68 (.pointer (some ⟨b,k,none⟩)) 2).run Tryz.prog w= .ok (.pointer (some ⟨b,k+2,none⟩)) w:=bD 5 2 runUnderlying68 rfl sizeOf5 (by decide)
theorem Df:∀ b k w,(Instr.fieldAt 68 (.pointer (some ⟨b,k,none⟩)) 3).run Tryz.prog w= .ok (.pointer (some ⟨b,k+3,none⟩)) w:=bD 5 3 runUnderlying68 rfl sizeOf5 (by decide)
theorem yP:∀ b k w,(Instr.fieldAt 68 (.pointer (some ⟨b,k,none⟩)) 4).run Tryz.prog w= .ok (.pointer (some ⟨b,k+4,none⟩)) w:=bD 26 4 runUnderlying68 rfl sizeOf26 (by decide)
theorem gO:∀ b k w,(Instr.fieldAt 93 (.pointer (some ⟨b,k,none⟩)) 0).run Tryz.prog w= .ok (.pointer (some ⟨b,k+0,none⟩)) w:=bD 28 0 runUnderlying93 rfl sizeOf28 (by decide)
theorem dW:∀ b k w,(Instr.fieldAt 93 (.pointer (some ⟨b,k,none⟩)) 1).run Tryz.prog w= .ok (.pointer (some ⟨b,k+1,none⟩)) w:=bD 40 1 runUnderlying93 rfl sizeOf40 (by decide)
theorem dt:∀ b k w,(Instr.fieldAt 93 (.pointer (some ⟨b,k,none⟩)) 2).run Tryz.prog w= .ok (.pointer (some ⟨b,k+4,none⟩)) w:=bD 89 4 runUnderlying93 rfl sizeOf89 (by decide)
theorem gN:∀ b k w,(Instr.fieldAt 93 (.pointer (some ⟨b,k,none⟩)) 3).run Tryz.prog w= .ok (.pointer (some ⟨b,k+5,none⟩)) w:=bD 90 5 runUnderlying93 rfl sizeOf90 (by decide)
theorem iu:∀ b k w,(Instr.fieldAt 93 (.pointer (some ⟨b,k,none⟩)) 4).run Tryz.prog w= .ok (.pointer (some ⟨b,k+6,none⟩)) w:=bD 91 6 runUnderlying93 rfl sizeOf91 (by decide)
theorem lj:∀ b k w,(Instr.fieldAt 95 (.pointer (some ⟨b,k,none⟩)) 0).run Tryz.prog w= .ok (.pointer (some ⟨b,k+0,none⟩)) w:=bD 3 0 runUnderlying95 rfl sizeOf3 (by decide)
theorem fj:∀ b k w,(Instr.fieldAt 95 (.pointer (some ⟨b,k,none⟩)) 1).run Tryz.prog w= .ok (.pointer (some ⟨b,k+1,none⟩)) w:=bD 3 1 runUnderlying95 rfl sizeOf3 (by decide)
theorem gM:∀ b k w,(Instr.fieldAt 95 (.pointer (some ⟨b,k,none⟩)) 2).run Tryz.prog w= .ok (.pointer (some ⟨b,k+2,none⟩)) w:=bD 25 2 runUnderlying95 rfl sizeOf25 (by decide)
theorem De:∀ b k w,(Instr.fieldAt 99 (.pointer (some ⟨b,k,none⟩)) 0).run Tryz.prog w= .ok (.pointer (some ⟨b,k+0,none⟩)) w:=bD 3 0 runUnderlying99 rfl sizeOf3 (by decide)
theorem Dd:∀ b k w,(Instr.fieldAt 99 (.pointer (some ⟨b,k,none⟩)) 1).run Tryz.prog w= .ok (.pointer (some ⟨b,k+1,none⟩)) w:=bD 3 1 runUnderlying99 rfl sizeOf3 (by decide)
theorem fD:∀ b k w,(Instr.fieldAt 105 (.pointer (some ⟨b,k,none⟩)) 0).run Tryz.prog w= .ok (.pointer (some ⟨b,k+0,none⟩)) w:=bD 38 0 runUnderlying105 rfl sizeOf38 (by decide)
theorem lY:∀ b k w,(Instr.fieldAt 105 (.pointer (some ⟨b,k,none⟩)) 1).run Tryz.prog w= .ok (.pointer (some ⟨b,k+2,none⟩)) w:=bD 3 2 runUnderlying105 rfl sizeOf3 (by decide)
theorem rG:∀ b k w,(Instr.fieldAt 111 (.pointer (some ⟨b,k,none⟩)) 0).run Tryz.prog w= .ok (.pointer (some ⟨b,k+0,none⟩)) w:=bD 78 0 runUnderlying111 rfl sizeOf78 (by decide)
theorem gP:∀ b k w,(Instr.fieldAt 111 (.pointer (some ⟨b,k,none⟩)) 1).run Tryz.prog w= .ok (.pointer (some ⟨b,k+1,none⟩)) w:=bD 25 1 runUnderlying111 rfl sizeOf25 (by decide)
theorem nY:∀ b k w,(Instr.fieldAt 111 (.pointer (some ⟨b,k,none⟩)) 2).run Tryz.prog w= .ok (.pointer (some ⟨b,k+2,none⟩)) w:=bD 25 2 runUnderlying111 rfl sizeOf25 (by decide)
theorem lX:∀ b k w,(Instr.fieldAt 111 (.pointer (some ⟨b,k,none⟩)) 3).run Tryz.prog w= .ok (.pointer (some ⟨b,k+3,none⟩)) w:=bD 109 3 runUnderlying111 rfl sizeOf109 (by decide)
theorem jv:∀ b k w,(Instr.fieldAt 129 (.pointer (some ⟨b,k,none⟩)) 0).run Tryz.prog w= .ok (.pointer (some ⟨b,k+0,none⟩)) w:=bD 116 0 runUnderlying129 rfl sizeOf116 (by decide)
theorem lW:∀ b k w,(Instr.fieldAt 129 (.pointer (some ⟨b,k,none⟩)) 1).run Tryz.prog w= .ok (.pointer (some ⟨b,k+1,none⟩)) w:=bD 28 1 runUnderlying129 rfl sizeOf28 (by decide)
theorem BJ:∀ b k w,(Instr.fieldAt 129 (.pointer (some ⟨b,k,none⟩)) 2).run Tryz.prog w= .ok (.pointer (some ⟨b,k+2,none⟩)) w:=bD 40 2 runUnderlying129 rfl sizeOf40 (by decide)
theorem eg:∀ b k w,(Instr.fieldAt 129 (.pointer (some ⟨b,k,none⟩)) 3).run Tryz.prog w= .ok (.pointer (some ⟨b,k+5,none⟩)) w:=bD 4 5 runUnderlying129 rfl sizeOf4 (by decide)
theorem nX:∀ b k w,(Instr.fieldAt 129 (.pointer (some ⟨b,k,none⟩)) 4).run Tryz.prog w= .ok (.pointer (some ⟨b,k+6,none⟩)) w:=bD 99 6 runUnderlying129 rfl sizeOf99 (by decide)
theorem nW:∀ b k w,(Instr.fieldAt 129 (.pointer (some ⟨b,k,none⟩)) 5).run Tryz.prog w= .ok (.pointer (some ⟨b,k+8,none⟩)) w:=bD 127 8 runUnderlying129 rfl sizeOf127 (by decide)
theorem kt:∀ b k w,(Instr.fieldAt 129 (.pointer (some ⟨b,k,none⟩)) 6).run Tryz.prog w= .ok (.pointer (some ⟨b,k+9,none⟩)) w:=bD 127 9 runUnderlying129 rfl sizeOf127 (by decide)
theorem nV:∀ b k w,(Instr.fieldAt 143 (.pointer (some ⟨b,k,none⟩)) 0).run Tryz.prog w= .ok (.pointer (some ⟨b,k+0,none⟩)) w:=bD 38 0 runUnderlying143 rfl sizeOf38 (by decide)
theorem lV:∀ b k w,(Instr.fieldAt 143 (.pointer (some ⟨b,k,none⟩)) 1).run Tryz.prog w= .ok (.pointer (some ⟨b,k+2,none⟩)) w:=bD 41 2 runUnderlying143 rfl sizeOf41 (by decide)
theorem nU:∀ b k w,(Instr.fieldAt 143 (.pointer (some ⟨b,k,none⟩)) 2).run Tryz.prog w= .ok (.pointer (some ⟨b,k+3,none⟩)) w:=bD 25 3 runUnderlying143 rfl sizeOf25 (by decide)
theorem vY:∀ b k w,(Instr.fieldAt 148 (.pointer (some ⟨b,k,none⟩)) 0).run Tryz.prog w= .ok (.pointer (some ⟨b,k+0,none⟩)) w:=bD 3 0 runUnderlying148 rfl sizeOf3 (by decide)
theorem nT:∀ b k w,(Instr.fieldAt 148 (.pointer (some ⟨b,k,none⟩)) 1).run Tryz.prog w= .ok (.pointer (some ⟨b,k+1,none⟩)) w:=bD 3 1 runUnderlying148 rfl sizeOf3 (by decide)
theorem iI:∀ b k w,(Instr.fieldAt 161 (.pointer (some ⟨b,k,none⟩)) 0).run Tryz.prog w= .ok (.pointer (some ⟨b,k+0,none⟩)) w:=bD 159 0 runUnderlying161 rfl sizeOf159 (by decide)
theorem lU:∀ b k w,(Instr.fieldAt 161 (.pointer (some ⟨b,k,none⟩)) 1).run Tryz.prog w= .ok (.pointer (some ⟨b,k+1,none⟩)) w:=bD 159 1 runUnderlying161 rfl sizeOf159 (by decide)
theorem lT:∀ b k w,(Instr.fieldAt 161 (.pointer (some ⟨b,k,none⟩)) 2).run Tryz.prog w= .ok (.pointer (some ⟨b,k+2,none⟩)) w:=bD 3 2 runUnderlying161 rfl sizeOf3 (by decide)
theorem df:∀ b k w,(Instr.fieldAt 171 (.pointer (some ⟨b,k,none⟩)) 0).run Tryz.prog w= .ok (.pointer (some ⟨b,k+0,none⟩)) w:=bD 28 0 runUnderlying171 rfl sizeOf28 (by decide)
theorem lS:∀ b k w,(Instr.fieldAt 171 (.pointer (some ⟨b,k,none⟩)) 1).run Tryz.prog w= .ok (.pointer (some ⟨b,k+1,none⟩)) w:=bD 40 1 runUnderlying171 rfl sizeOf40 (by decide)
theorem kr:∀ b k w,(Instr.fieldAt 171 (.pointer (some ⟨b,k,none⟩)) 2).run Tryz.prog w= .ok (.pointer (some ⟨b,k+4,none⟩)) w:=bD 26 4 runUnderlying171 rfl sizeOf26 (by decide)
theorem dH:∀ b k w,(Instr.fieldAt 171 (.pointer (some ⟨b,k,none⟩)) 3).run Tryz.prog w= .ok (.pointer (some ⟨b,k+5,none⟩)) w:=bD 3 5 runUnderlying171 rfl sizeOf3 (by decide)
theorem iH:∀ b k w,(Instr.fieldAt 191 (.pointer (some ⟨b,k,none⟩)) 0).run Tryz.prog w= .ok (.pointer (some ⟨b,k+0,none⟩)) w:=bD 28 0 runUnderlying191 rfl sizeOf28 (by decide)
theorem vX:∀ b k w,(Instr.fieldAt 191 (.pointer (some ⟨b,k,none⟩)) 1).run Tryz.prog w= .ok (.pointer (some ⟨b,k+1,none⟩)) w:=bD 40 1 runUnderlying191 rfl sizeOf40 (by decide)
theorem nS:∀ b k w,(Instr.fieldAt 191 (.pointer (some ⟨b,k,none⟩)) 2).run Tryz.prog w= .ok (.pointer (some ⟨b,k+4,none⟩)) w:=bD 95 4 runUnderlying191 rfl sizeOf95 (by decide)
theorem rF:∀ b k w,(Instr.fieldAt 191 (.pointer (some ⟨b,k,none⟩)) 3).run Tryz.prog w= .ok (.pointer (some ⟨b,k+7,none⟩)) w:=bD 3 7 runUnderlying191 rfl sizeOf3 (by decide)
theorem kq:∀ b k w,(Instr.fieldAt 191 (.pointer (some ⟨b,k,none⟩)) 4).run Tryz.prog w= .ok (.pointer (some ⟨b,k+8,none⟩)) w:=bD 3 8 runUnderlying191 rfl sizeOf3 (by decide)
theorem ju:∀ b k w,(Instr.fieldAt 191 (.pointer (some ⟨b,k,none⟩)) 5).run Tryz.prog w= .ok (.pointer (some ⟨b,k+9,none⟩)) w:=bD 3 9 runUnderlying191 rfl sizeOf3 (by decide)
theorem nR:∀ b k w,(Instr.fieldAt 191 (.pointer (some ⟨b,k,none⟩)) 6).run Tryz.prog w= .ok (.pointer (some ⟨b,k+10,none⟩)) w:=bD 25 10 runUnderlying191 rfl sizeOf25 (by decide)
theorem nQ:∀ b k w,(Instr.fieldAt 191 (.pointer (some ⟨b,k,none⟩)) 7).run Tryz.prog w= .ok (.pointer (some ⟨b,k+11,none⟩)) w:=bD 189 11 runUnderlying191 rfl sizeOf189 (by decide)
theorem jt:∀ b k w,(Instr.fieldAt 191 (.pointer (some ⟨b,k,none⟩)) 8).run Tryz.prog w= .ok (.pointer (some ⟨b,k+12,none⟩)) w:=bD 4 12 runUnderlying191 rfl sizeOf4 (by decide)
theorem vW:∀ b k w,(Instr.fieldAt 198 (.pointer (some ⟨b,k,none⟩)) 0).run Tryz.prog w= .ok (.pointer (some ⟨b,k+0,none⟩)) w:=bD 136 0 runUnderlying198 rfl sizeOf136 (by decide)
theorem BI:∀ b k w,(Instr.fieldAt 209 (.pointer (some ⟨b,k,none⟩)) 0).run Tryz.prog w= .ok (.pointer (some ⟨b,k+0,none⟩)) w:=bD 5 0 runUnderlying209 rfl sizeOf5 (by decide)
theorem BH:∀ b k w,(Instr.fieldAt 209 (.pointer (some ⟨b,k,none⟩)) 1).run Tryz.prog w= .ok (.pointer (some ⟨b,k+1,none⟩)) w:=bD 5 1 runUnderlying209 rfl sizeOf5 (by decide)
theorem Cp:((Tryz.prog.info? 1).map fun i=>decide (i.bytes≤65536)&&decide (i.bytes≠0))=some true:=by kernel_rfl
theorem Au:((Tryz.prog.info? 3).map fun i=>decide (i.bytes≤65536)&&decide (i.bytes≠0))=some true:=by kernel_rfl
theorem iy:((Tryz.prog.info? 26).map fun i=>decide (i.bytes≤65536)&&decide (i.bytes≠0))=some true:=by kernel_rfl
theorem D5:((Tryz.prog.info? 105).map fun i=>decide (i.bytes≤65536)&&decide (i.bytes≠0))=some true:=by kernel_rfl
theorem oc:((Tryz.prog.info? 136).map fun i=>decide (i.bytes≤65536)&&decide (i.bytes≠0))=some true:=by kernel_rfl
theorem D4:((Tryz.prog.info? 198).map fun i=>decide (i.bytes≤65536)&&decide (i.bytes≠0))=some true:=by kernel_rfl
theorem kz(v2:Value)(h2:aV v2=true)(w:World):(Instr.build 24 #[(2,v2)]).run Tryz.prog w= .ok (.agg #[.int .u16 0,.int .u16 0,v2]) w:=by
 simp[Instr.build,Instr.fill,bM,zeroValue24,runUnderlying24,sizeOf22,aP h2]
theorem B5(w:World):(Instr.build 38 #[]).run Tryz.prog w= .ok (.agg #[.int .i64 0,.int .i64 0]) w:=by
 simp[Instr.build,Instr.fill,bM,zeroValue38,runUnderlying38,sizeOf3]
theorem rV(v0:Value)(h0:aV v0=true)(w:World):(Instr.build 38 #[(0,v0)]).run Tryz.prog w= .ok (.agg #[v0,.int .i64 0]) w:=by
 simp[Instr.build,Instr.fill,bM,zeroValue38,runUnderlying38,sizeOf3,aP h0]
theorem mX(v0:Value)(v1:Value)(h0:aV v0=true)(h1:aV v1=true)(w:World):(Instr.build 38 #[(0,v0),(1,v1)]).run Tryz.prog w= .ok (.agg #[v0,v1]) w:=by
 simp[Instr.build,Instr.fill,bM,zeroValue38,runUnderlying38,sizeOf3,aP h0,aP h1]
theorem xG(v0:Value)(v1:Value)(h0:aV v0=true)(h1:aV v1=true)(w:World):(Instr.build 38 #[(1,v1),(0,v0)]).run Tryz.prog w= .ok (.agg #[v0,v1]) w:=by
 simp[Instr.build,Instr.fill,bM,zeroValue38,runUnderlying38,sizeOf3,aP h1,aP h0]
theorem xF(w:World):(Instr.build 40 #[]).run Tryz.prog w= .ok (.agg #[.int .i64 0,.int .i64 0,.int .i64 0]) w:=by
 simp[Instr.build,Instr.fill,bM,zeroValue40,runUnderlying40,sizeOf3]
theorem eh(v0:Value)(v1:Value)(v2:Value)(h0:aV v0=true)(h1:aV v1=true)(h2:aV v2=true)(w:World):(Instr.build 40 #[(0,v0),(1,v1),(2,v2)]).run Tryz.prog w= .ok (.agg #[v0,v1,v2]) w:=by
 simp[Instr.build,Instr.fill,bM,zeroValue40,runUnderlying40,sizeOf3,aP h0,aP h1,aP h2]
theorem uG(v0:Value)(v1:Value)(v2:Value)(h0:aV v0=true)(h1:aV v1=true)(h2:aV v2=true)(w:World):(Instr.build 40 #[(1,v1),(0,v0),(2,v2)]).run Tryz.prog w= .ok (.agg #[v0,v1,v2]) w:=by
 simp[Instr.build,Instr.fill,bM,zeroValue40,runUnderlying40,sizeOf3,aP h1,aP h0,aP h2]
theorem uF(v0_0 v0_1 v0_2:Value)(v1:Value)(v8:Value)(h1:aV v1=true)(h8:aV v8=true)(w:World):(Instr.build 45 #[(0,.agg #[v0_0,v0_1,v0_2]),(1,v1),(8,v8)]).run Tryz.prog w= .ok (.agg #[v0_0,v0_1,v0_2,v1,.int .i64 0,.slice none 0 0,.bool false,.slice none 0 0,.slice none 0 0,.slice none 0 0,v8,.int .i64 0]) w:=by
 simp[Instr.build,Instr.fill,bM,zeroValue45,runUnderlying45,sizeOf3,sizeOf4,sizeOf40,sizeOf41,sizeOf42,sizeOf43,aP h1,aP h8]
theorem oU(v0:Value)(v1:Value)(v2:Value)(v3:Value)(v4:Value)(h0:aV v0=true)(h1:aV v1=true)(h2:aV v2=true)(h3:aV v3=true)(h4:aV v4=true)(w:World):(Instr.build 58 #[(0,v0),(1,v1),(2,v2),(3,v3),(4,v4)]).run Tryz.prog w= .ok (.agg #[v0,v1,v2,v3,v4]) w:=by
 simp[Instr.build,Instr.fill,bM,zeroValue58,runUnderlying58,sizeOf3,sizeOf4,aP h0,aP h1,aP h2,aP h3,aP h4]
theorem rU(v0:Value)(v1_0 v1_1 v1_2:Value)(v2:Value)(v3:Value)(h0:aV v0=true)(h2:aV v2=true)(h3:aV v3=true)(w:World):(Instr.build 93 #[(0,v0),(1,.agg #[v1_0,v1_1,v1_2]),(2,v2),(3,v3)]).run Tryz.prog w= .ok (.agg #[v0,v1_0,v1_1,v1_2,v2,v3,.pointer none]) w:=by
 simp[Instr.build,Instr.fill,bM,zeroValue93,runUnderlying93,sizeOf28,sizeOf40,sizeOf89,sizeOf90,sizeOf91,aP h0,aP h2,aP h3]
theorem EI(w:World):(Instr.build 95 #[]).run Tryz.prog w= .ok (.agg #[.int .i64 0,.int .i64 0,.slice none 0 0]) w:=by
 simp[Instr.build,Instr.fill,bM,zeroValue95,runUnderlying95,sizeOf25,sizeOf3]
theorem rT(v0:Value)(v1:Value)(h0:aV v0=true)(h1:aV v1=true)(w:World):(Instr.build 95 #[(0,v0),(1,v1)]).run Tryz.prog w= .ok (.agg #[v0,v1,.slice none 0 0]) w:=by
 simp[Instr.build,Instr.fill,bM,zeroValue95,runUnderlying95,sizeOf25,sizeOf3,aP h0,aP h1]
theorem B4(w:World):(Instr.build 99 #[]).run Tryz.prog w= .ok (.agg #[.int .i64 0,.int .i64 0]) w:=by
 simp[Instr.build,Instr.fill,bM,zeroValue99,runUnderlying99,sizeOf3]
theorem xE(v0:Value)(v1:Value)(h0:aV v0=true)(h1:aV v1=true)(w:World):(Instr.build 99 #[(0,v0),(1,v1)]).run Tryz.prog w= .ok (.agg #[v0,v1]) w:=by
 simp[Instr.build,Instr.fill,bM,zeroValue99,runUnderlying99,sizeOf3,aP h0,aP h1]
theorem uH(w:World):(Instr.build 105 #[]).run Tryz.prog w= .ok (.agg #[.int .i64 0,.int .i64 0,.int .i64 0]) w:=by
 simp[Instr.build,Instr.fill,bM,zeroValue105,runUnderlying105,sizeOf3,sizeOf38]
theorem wr(v0_0 v0_1:Value)(v1:Value)(h1:aV v1=true)(w:World):(Instr.build 105 #[(0,.agg #[v0_0,v0_1]),(1,v1)]).run Tryz.prog w= .ok (.agg #[v0_0,v0_1,v1]) w:=by
 simp[Instr.build,Instr.fill,bM,zeroValue105,runUnderlying105,sizeOf3,sizeOf38,aP h1]
theorem z7(v1:Value)(h1:aV v1=true)(w:World):(Instr.build 105 #[(1,v1)]).run Tryz.prog w= .ok (.agg #[.int .i64 0,.int .i64 0,v1]) w:=by
 simp[Instr.build,Instr.fill,bM,zeroValue105,runUnderlying105,sizeOf3,sizeOf38,aP h1]
theorem pC(v0:Value)(v1:Value)(v2:Value)(v3:Value)(h0:aV v0=true)(h1:aV v1=true)(h2:aV v2=true)(h3:aV v3=true)(w:World):(Instr.build 111 #[(0,v0),(1,v1),(2,v2),(3,v3)]).run Tryz.prog w= .ok (.agg #[v0,v1,v2,v3]) w:=by
 simp[Instr.build,Instr.fill,bM,zeroValue111,runUnderlying111,sizeOf109,sizeOf25,sizeOf78,aP h0,aP h1,aP h2,aP h3]
theorem mC(v0:Value)(v1:Value)(v2_0 v2_1 v2_2:Value)(h0:aV v0=true)(h1:aV v1=true)(w:World):(Instr.build 129 #[(0,v0),(1,v1),(2,.agg #[v2_0,v2_1,v2_2])]).run Tryz.prog w= .ok (.agg #[v0,v1,v2_0,v2_1,v2_2,.bool false,.int .i64 0,.int .i64 0,.map none,.map none]) w:=by
 simp[Instr.build,Instr.fill,bM,zeroValue129,runUnderlying129,sizeOf116,sizeOf127,sizeOf28,sizeOf4,sizeOf40,sizeOf99,aP h0,aP h1]
theorem mB(v0_0 v0_1:Value)(v1:Value)(v2:Value)(h1:aV v1=true)(h2:aV v2=true)(w:World):(Instr.build 143 #[(0,.agg #[v0_0,v0_1]),(1,v1),(2,v2)]).run Tryz.prog w= .ok (.agg #[v0_0,v0_1,v1,v2]) w:=by
 simp[Instr.build,Instr.fill,bM,zeroValue143,runUnderlying143,sizeOf25,sizeOf38,sizeOf41,aP h1,aP h2]
theorem z6(v0:Value)(h0:aV v0=true)(w:World):(Instr.build 148 #[(0,v0)]).run Tryz.prog w= .ok (.agg #[v0,.int .i64 0]) w:=by
 simp[Instr.build,Instr.fill,bM,zeroValue148,runUnderlying148,sizeOf3,aP h0]
theorem pV(w:World):(Instr.build 149 #[]).run Tryz.prog w= .ok (.agg #[]) w:=by
 simp[Instr.build,Instr.fill,bM,zeroValue149,runUnderlying149]
theorem Dw(w:World):(Instr.build 150 #[]).run Tryz.prog w= .ok (.agg #[]) w:=by
 simp[Instr.build,Instr.fill,bM,zeroValue150,runUnderlying150]
theorem wq(v0:Value)(v1:Value)(h0:aV v0=true)(h1:aV v1=true)(w:World):(Instr.build 161 #[(0,v0),(1,v1)]).run Tryz.prog w= .ok (.agg #[v0,v1,.int .i64 0]) w:=by
 simp[Instr.build,Instr.fill,bM,zeroValue161,runUnderlying161,sizeOf159,sizeOf3,aP h0,aP h1]
theorem sB(v0:Value)(v1_0 v1_1 v1_2:Value)(v2:Value)(h0:aV v0=true)(h2:aV v2=true)(w:World):(Instr.build 171 #[(0,v0),(1,.agg #[v1_0,v1_1,v1_2]),(2,v2)]).run Tryz.prog w= .ok (.agg #[v0,v1_0,v1_1,v1_2,v2,.int .i64 0]) w:=by
 simp[Instr.build,Instr.fill,bM,zeroValue171,runUnderlying171,sizeOf26,sizeOf28,sizeOf3,sizeOf40,aP h0,aP h2]
theorem gH(v0:Value)(v1_0 v1_1 v1_2:Value)(v2_0 v2_1 v2_2:Value)(v3:Value)(v4:Value)(v5:Value)(v6:Value)(v7:Value)(h0:aV v0=true)(h3:aV v3=true)(h4:aV v4=true)(h5:aV v5=true)(h6:aV v6=true)(h7:aV v7=true)(w:World):(Instr.build 191 #[(0,v0),(1,.agg #[v1_0,v1_1,v1_2]),(2,.agg #[v2_0,v2_1,v2_2]),(3,v3),(4,v4),(5,v5),(6,v6),(7,v7)]).run Tryz.prog w= .ok (.agg #[v0,v1_0,v1_1,v1_2,v2_0,v2_1,v2_2,v3,v4,v5,v6,v7,.bool false]) w:=by
 simp[Instr.build,Instr.fill,bM,zeroValue191,runUnderlying191,sizeOf189,sizeOf25,sizeOf28,sizeOf3,sizeOf4,sizeOf40,sizeOf95,aP h0,aP h3,aP h4,aP h5,aP h6,aP h7]
theorem jS(v0:Value)(v1:Value)(h0:aV v0=true)(h1:aV v1=true)(w:World):(Instr.build 198 #[(0,v0),(1,v1)]).run Tryz.prog w= .ok (.agg #[v0,v1]) w:=by
 simp[Instr.build,Instr.fill,bM,zeroValue198,runUnderlying198,sizeOf136,sizeOf3,aP h0,aP h1]
theorem wp(v0:Value)(v1:Value)(h0:aV v0=true)(h1:aV v1=true)(w:World):(Instr.build 209 #[(0,v0),(1,v1)]).run Tryz.prog w= .ok (.agg #[v0,v1]) w:=by
 simp[Instr.build,Instr.fill,bM,zeroValue209,runUnderlying209,sizeOf5,aP h0,aP h1]
theorem jc(v1:Value)(h1:aV v1=true)(w:World):(Instr.build 209 #[(1,v1)]).run Tryz.prog w= .ok (.agg #[.int .u8 0,v1]) w:=by
 simp[Instr.build,Instr.fill,bM,zeroValue209,runUnderlying209,sizeOf5,aP h1]
structure Pow where
 lim:Int
 used:Int
def Pow.out(s:Pow):Bool:=decide (0≤s.lim)&&decide (s.lim≤s.used)
def Pow.up(s:Pow):Pow:={s with used:=IntKind.i64.wrap (s.used+1)}
def lr(b:Nat)(s:Pow):HP:=row b [.int .i64 s.lim,.int .i64 s.used] 148
def dN:List PanicEntry:=[{v:= .iface 150 (.agg #[]),recovered:=false}]
abbrev ptr(b:Nat):Value:= .pointer (some ⟨b,0,none⟩)
theorem t7(B:World)(Fr:List HP)(n:Int):
 ∀ w,Holds B Fr w→Calls Tryz.prog 35 [.int .i64 n].toArray w (Ret B (fun v H'=>∃ b,v=ptr b∧H'=lr b ⟨n,0⟩::Fr) (fun _ _=>False)):=by
 refine au func35 aa ntmps35 aa (ac (ab (kPa aa aa (ad (ac (ab (kPm aa aa (kPv (aZ aa (z6 _ aa)) aa (aC aa (bx aa) .free aa aa ?_)))))))))
 rintro _ _ ⟨b5,rfl,rfl⟩
 refine kPa aa aa (ad (az ?_))
 exact ax results35 aa (fun w hw=>⟨_,⟨_,rfl,rfl⟩,hw⟩)
theorem Ck(B:World)(Fr:List HP)(b:Nat)(s:Pow):
 ∀ w,Holds B (lr b s::Fr) w→Calls Tryz.prog 223 [ptr b].toArray w (bB B (lr b s::Fr) (.int .i64 s.used)):=by
 rw[lr]
 refine au func223 aa ntmps223 aa (ac (ab (kPa aa aa (ad (ac (ab (kPm aa aa (kPv (ak aa) aa (kPv (aj (m:=_) nT aa aa) aa (kPv (ae isAgg3 aa aa) aa (kPa aa aa ?_)))))))))))
 refine ad (az ?_)
 exact ax results223 aa (fun w hw=>⟨rfl,hw⟩)
theorem m8(B:World)(Fr:List HP)(b:Nat)(s:Pow):
 ∀ w,Holds B (lr b s::Fr) w→Calls Tryz.prog 165 [ptr b].toArray w (Ret B (fun v H'=>∃ s',(s.out=false∧v= .tuple #[]∧s.up=s')∧H'=lr b s'::Fr) (fun c H'=>∃ s',(s.out=true∧c=dN∧s=s')∧H'=lr b s'::Fr)):=by
 rw[lr]
 refine au func165 aa ntmps165 aa (ac (ac (cK Tryz.mixed (by kernel_rfl) (by kernel_rfl) ?_)))
 refine kQm aa aa (kQv (ak aa) aa (kQv (aj (m:=_) vY aa aa) aa (kQv (ae isAgg3 aa aa) aa (kQv (an aa aa aa) aa (kQm aa aa ?_)))))
 apply np (tp:=17) (t:=7) (σ1:=[(7,_),(0,_)]) 10 rfl ⟨rfl,rfl,trivial⟩
 ·intro hg1
  refine bA aa (ap aa) (.on aa aa (ah hg1)) aa (bA aa (ak aa) (.on aa aa (ah hg1)) aa (bA aa (aj (m:=_) nT aa aa) (.on aa aa (ah hg1)) aa (bA aa (ae isAgg3 aa aa) (.on aa aa (ah hg1)) aa (bA aa (ap aa) (.on aa aa (ah hg1)) aa (bA aa (ak aa) (.on aa aa (ah hg1)) aa (bA aa (aj (m:=_) vY aa aa) (.on aa aa (ah hg1)) aa (bA aa (ae isAgg3 aa aa) (.on aa aa (ah hg1)) aa (bA aa (an aa aa aa) (.on aa aa (ah hg1)) aa (kQv (aH aa hg1 aa) aa ?_)))))))))
  exact eu aa ⟨rfl,rfl,trivial⟩ (cV hg1)
 ·intro hg1
  refine bf aa (.on aa aa (ai hg1)) aa (bf aa (.on aa aa (ai hg1)) aa (bf aa (.on aa aa (ai hg1)) aa (bf aa (.on aa aa (ai hg1)) aa (bf aa (.on aa aa (ai hg1)) aa (bf aa (.on aa aa (ai hg1)) aa (bf aa (.on aa aa (ai hg1)) aa (bf aa (.on aa aa (ai hg1)) aa (bf aa (.on aa aa (ai hg1)) aa (kQv (aL aa hg1 aa) aa ?_)))))))))
  exact eu aa ⟨rfl,rfl,trivial⟩ (cW hg1)
 refine bR ?_
 refine aW aa (fun h17=> ?_) (fun h17=> ?_)
 ·try simp only[decide_eq_true_eq,decide_eq_false_iff_not,Bool.not_eq_true',Bool.not_eq_false',Bool.or_eq_true,Bool.and_eq_true,Bool.and_eq_false_iff,Bool.or_eq_false_iff,beq_iff_eq,bne_iff_ne,beq_eq_false_iff_ne,bne_eq_false_iff_eq,ge_iff_le,gt_iff_lt,ne_eq] at h17
  refine ab (kPv (aZ aa (Dw)) aa (kPv (BM runUnderlying150 aa aa) aa (AP aa .free ?_)))
  exact bz (fun w hw=>⟨_,⟨_,⟨by simp[Pow.out];omega,rfl,rfl⟩,rfl⟩,hw⟩)
 ·try simp only[decide_eq_true_eq,decide_eq_false_iff_not,Bool.not_eq_true',Bool.not_eq_false',Bool.or_eq_true,Bool.and_eq_true,Bool.and_eq_false_iff,Bool.or_eq_false_iff,beq_iff_eq,bne_iff_ne,beq_eq_false_iff_ne,bne_eq_false_iff_eq,ge_iff_le,gt_iff_lt,ne_eq] at h17
  refine ay (ab (kPm aa aa (kPv (ak aa) aa (kPv (aj (m:=_) nT aa aa) aa (kPv (ae isAgg3 aa aa) aa (kPv (aS aa aa) aa (kPv (ak aa) aa (kPv (aj (m:=_) nT aa aa) aa (aD aa (aR sizeOf3 aa aa aa aa) .free aa ?_)))))))))
  rintro _ _ rfl
  refine ad (ao [] rfl ?_)
  exact cS results165 (fun w hw=>⟨_,⟨_,⟨by simp[Pow.out];omega,rfl,rfl⟩,rfl⟩,hw⟩)
theorem Cz{B:World}{H:List HP}{b:Nat}{x:Bool}{w:World}(hw:Holds B (row b [.bool x] 4::H) w):
 CallsD Tryz.prog 105 #[ptr b] (.panicking dN) w fun e u' w'=>e= .returned (.tuple #[])∧u'= .panicking [{v:= .iface 150 (.agg #[]),recovered:=true}]∧Holds B (row b [.bool false] 4::H) w':=by
 refine callsD_of_wpS func105 aa fun c₀ cs hu=> ?_
 apply wpS_seq
 apply wpS_region
 simp[wpOpsS,go_sem,recoverD,hu,dN,ntmps105,Exit.thenS]
 refine Ap (n:=15) (σ:=[(0,ptr b),(1,.iface 150 (.agg #[]))]) (K:=Do (Holds B (row b [.bool false] 4::H))) (X:=noX) (by simp) aa (by simp[KnA]) hw ?_ ?_
 ·skip
  refine ac (ab (kPm aa aa ?_))
  first | refine aq rfl (pQ runUnderlying20 rfl (.inr ⟨_,_,rfl⟩)) .free rfl rfl ?_ | refine aq rfl (pQ runUnderlying20 rfl (.inl rfl)) .free rfl rfl ?_
  refine ad (pt aa (rfl) (ac (ac (ab (kPm aa aa (kPv (Fb runUnderlying150 aa aa) aa (kPm aa aa (kPv (aB aa aa) aa (kPv (aB aa aa) aa (aC aa (aN zeroValue150 aa) .free aa aa ?_))))))))))
  rintro _ _ ⟨b2,rfl,rfl⟩
  refine aD aa (aI (vs:=_) sizeOf150 aa aa aa aa aa) .free aa ?_
  rintro _ _ rfl
  refine kPa aa aa (ad (ao [3,0,1] rfl (ac (ab (kPm aa aa (kPv (bF aa) aa (ad (cf aa (rfl) (ay (ab (aD aa (aR sizeOf4 aa aa aa aa) .free aa ?_)))))))))))
  rintro _ _ rfl
  refine ad ?_
  exact yG fun _ h=>by first | exact h | exact(h.front 1 rfl).map fun _ k=>eB (fun _ k=>iD k) k
 ·intro e a w' q
  obtain⟨rfl,q1,q2⟩:=x4 q
  refine⟨q1,.panicking [{v:= .iface 150 (.agg #[]),recovered:=true}],rfl,.tuple #[],?_,rfl,rfl,q2⟩
  exact results_none results105 _ _ _
theorem AI{B:World}{H:List HP}{b:Nat}{x:Bool}{w:World}(hw:Holds B (row b [.bool x] 4::H) w):
 CallsD Tryz.prog 105 #[ptr b] .returning w fun e u' w'=>e= .returned (.tuple #[])∧u'= .returning∧Holds B (row b [.bool x] 4::H) w':=by
 refine callsD_of_wpS func105 aa fun c₀ cs hu=> ?_
 apply wpS_seq
 apply wpS_region
 simp[wpOpsS,go_sem,recoverD,hu,ntmps105,Exit.thenS]
 refine Ap (n:=15) (σ:=[(0,ptr b),(1,.nilIface)]) (K:=Do (Holds B (row b [.bool x] 4::H))) (X:=noX) (by simp) aa (by simp[KnA]) hw ?_ ?_
 ·skip
  refine ac (ab (kPm aa aa ?_))
  first | refine aq rfl (pQ runUnderlying20 rfl (.inr ⟨_,_,rfl⟩)) .free rfl rfl ?_ | refine aq rfl (pQ runUnderlying20 rfl (.inl rfl)) .free rfl rfl ?_
  refine ad (cf aa (rfl) (ay ?_))
  exact yG fun _ h=>h
 ·intro e a w' q
  obtain⟨rfl,q1,q2⟩:=x4 q
  refine⟨q1,.returning,?_,.tuple #[],?_,rfl,rfl,q2⟩
  ·cases c₀;simp_all
  ·exact results_none results105 _ _ _
theorem Ed{B:World}{g:FuncId}{cap:List Value}{H:List HP}{Φ Ψ:List HP→Prop}(hc:∀ args w,(callFunc g args).run Tryz.prog w= .ok (.enter g args) w)
 (h:∀ A w,Holds B (A::H) w→Calls Tryz.prog g cap.toArray w (Ret B (fun _ H'=>∃ H1,Φ H1∧∀ w,Holds B H' w→Holds B (A::H1) w) (fun c H'=>c=dN∧∃ H1,Ψ H1∧∀ w,Holds B H' w→Holds B (A::H1) w))):
 ∀ w,Holds B H w→Calls Tryz.prog 36 [.func (.func g) #[] cap.toArray].toArray w (Ret B (fun v H'=>(v= .bool true∧Φ H')∨(v= .bool false∧Ψ H')) (fun _ _=>False)):=by
 refine xt func36 aa ntmps36 aa (ac (ab (aC aa (cA zeroValue4 aa) .free aa aa ?_)))
 rintro _ _ ⟨b,rfl,rfl⟩
 refine ad (ac (ab (kPv (dm aa aa) aa (CB aa aa .free (ad (ac (ab (kPm aa aa ?_))))))))
 refine aY aa (ku hc aa aa) (by simpa using h (row b [.bool false] 4)) .free aa aa ?_ ?_
 ·rintro v H' ⟨H1,hΦ,hi⟩
  refine aK hi (ad (ac (ab (aD aa (aR sizeOf4 aa aa aa aa) .free aa ?_))))
  rintro _ _ rfl
  refine ad (az ?_)
  intro a w s
  show Leaves _ _ _ _ a.defers .returning w
  rw[s.defers]
  refine leaves_cons (f:=105) (args:= #[ptr b]) (by simp) (by simp[invoke,call105]) ((AI (x:=true) s.holds).mono ?_)
  rintro e u' w' ⟨rfl,rfl,hw'⟩
  refine⟨.bool true,?_,H1,.inl ⟨rfl,hΦ⟩,hw'.tail⟩
  have h1:=s.env 2 (ptr b) rfl
  have h2:=hw'.ucell (b:=b) 0
  simp[results,results36,h1,asAddr,loadVar,isAgg4,load,Sem.run,h2]
 ·rintro c H' ⟨rfl,H1,hΨ,hi⟩
  refine aK hi ?_
  intro a w s
  show Leaves _ _ _ _ a.defers (.panicking dN) w
  rw[s.defers]
  refine leaves_cons (f:=105) (args:= #[ptr b]) (by simp) (by simp[invoke,call105]) ((Cz (x:=false) s.holds).mono ?_)
  rintro e u' w' ⟨rfl,rfl,hw'⟩
  refine⟨.bool false,?_,H1,.inr ⟨rfl,hΨ⟩,hw'.tail⟩
  have h1:=s.env 2 (ptr b) rfl
  have h2:=hw'.ucell (b:=b) 0
  simp[results,results36,h1,asAddr,loadVar,isAgg4,load,Sem.run,h2]
theorem ye{B:World}{g:FuncId}{cap:List Value}{H:List HP}(r:Bool)(F:List HP)(hc:∀ args w,(callFunc g args).run Tryz.prog w= .ok (.enter g args) w)
 (h:∀ A w,Holds B (A::H) w→Calls Tryz.prog g cap.toArray w (Ret B (fun _ H'=>r=true∧∀ w,Holds B H' w→Holds B (A::F) w) (fun c H'=>r=false∧c=dN∧∀ w,Holds B H' w→Holds B (A::F) w))):
 ∀ w,Holds B H w→Calls Tryz.prog 36 [.func (.func g) #[] cap.toArray].toArray w (Ret B (fun v H'=>v= .bool r∧H'=F) (fun _ _=>False)):=by
 intro w hw
 refine(Ed (Φ:=fun H1=>r=true∧H1=F) (Ψ:=fun H1=>r=false∧H1=F) hc (fun A w hw=>(h A w hw).mono (Ret.mono (fun v H' h=>⟨F,⟨h.1,rfl⟩,h.2⟩) (fun c H' h=>⟨h.2.1,F,⟨h.1,rfl⟩,h.2.2⟩))) w hw).mono (Ret.mono ?_ (fun _ _ h=>h))
 rintro v H' (⟨rfl,rfl,rfl⟩ | ⟨rfl,rfl,rfl⟩)<;>exact⟨rfl,rfl⟩
abbrev w64(x:Int):Value:= .int .u64 x
abbrev uy(ws:List Int):Value:= .agg (ws.map w64).toArray
abbrev i64(x:Int):Value:= .int .i64 x
structure Dev where
 pa:Nat
 pow:Pow
 n:Nat
 now:Nat→Int
 kept:Nat→Int
 q:Nat→Option (Nat→Int)
structure Am(n:Nat)(q:Nat→Option (Nat→Int))(l:List (Int×List Int)):Prop where
 pos:∀ p∈l,0≤p.1
 get:∀ k:Nat,bi l k=(q k).map (tab 8)
 lt:∀ k f,q k=some f→k*8+8≤n
structure Cj(s:Dev)(l:List (Int×List Int)):Prop where
 line:s.n%8=0
 pos:0<s.n
 le:s.n≤1000000
 rep:Am s.n s.q l
def EN(b bn bk bq:Nat)(rest:List Value)(l:List (Int×List Int))(s:Dev):List HP:=
 [row b [.pointer (some ⟨s.pa,0,none⟩),.slice (some ⟨bn,0,none⟩) s.n s.n,.slice (some ⟨bk,0,none⟩) s.n (s.n+rest.length),.map (some bq)] 111,
  row bn (tab s.n fun i=>w64 (s.now i)) 26,row bk (tab s.n (fun i=>w64 (s.kept i))++rest) 26,bJ .i64 uy bq l,lr s.pa s.pow,pr (Cj s l)]
def aG(b:Nat)(s:Dev):HP:=hex fun (x:Nat×Nat×Nat×List Value×List (Int×List Int))=>grp (EN b x.1 x.2.1 x.2.2.1 x.2.2.2.1 x.2.2.2.2 s)
theorem tj{B:World}{b:Nat}{s:Dev}{Fr:List HP}{w:World}(h:Holds B (aG b s::Fr) w):∃ bn bk bq rest l,Cj s l∧Holds B (row b [.pointer (some ⟨s.pa,0,none⟩),.slice (some ⟨bn,0,none⟩) s.n s.n,.slice (some ⟨bk,0,none⟩) s.n (s.n+rest.length),.map (some bq)] 111::
 row bn (tab s.n fun i=>w64 (s.now i)) 26::row bk (tab s.n (fun i=>w64 (s.kept i))++rest) 26::bJ .i64 uy bq l::lr s.pa s.pow::Fr) w:=by
 obtain⟨x,hx⟩:=h.hex
 have h2:=hx.grp
 simp only[EN,List.cons_append,List.nil_append] at h2
 have h3:=(h2.front 5 rfl).pr
 exact⟨_,_,_,_,_,h3.1,h3.2⟩
theorem dP{B:World}{b:Nat}{s:Dev}{Fr:List HP}{w:World}{bn bk bq:Nat}{rest:List Value}{l:List (Int×List Int)}(hw:Cj s l)(h:Holds B (row b [.pointer (some ⟨s.pa,0,none⟩),.slice (some ⟨bn,0,none⟩) s.n s.n,.slice (some ⟨bk,0,none⟩) s.n (s.n+rest.length),.map (some bq)] 111::
 row bn (tab s.n fun i=>w64 (s.now i)) 26::row bk (tab s.n (fun i=>w64 (s.kept i))++rest) 26::bJ .i64 uy bq l::lr s.pa s.pow::Fr) w):Holds B (aG b s::Fr) w:=by
 refine Holds.unhex (bn,bk,bq,rest,l) (Holds.ungrp (l:=EN b bn bk bq rest l s) ?_)
 exact(h.unpr hw).back 5 (by simp)
theorem lR{B:World}{n:Nat}{D:List Deferred}{σ:Env}{b:Nat}{s:Dev}{Fr:List HP}{K:Act→World→Prop}(h:∀ bn bk bq rest l,Cj s l→GO B n D σ (row b [.pointer (some ⟨s.pa,0,none⟩),.slice (some ⟨bn,0,none⟩) s.n s.n,.slice (some ⟨bk,0,none⟩) s.n (s.n+rest.length),.map (some bq)] 111::
 row bn (tab s.n fun i=>w64 (s.now i)) 26::row bk (tab s.n (fun i=>w64 (s.kept i))++rest) 26::bJ .i64 uy bq l::lr s.pa s.pow::Fr) K):GO B n D σ (aG b s::Fr) K:=fun a w st=>by
 obtain⟨bn,bk,bq,rest,l,h1,h2⟩:=tj st.holds
 exact h bn bk bq rest l h1 a w ⟨st.toStA,h2⟩
theorem mA{B:World}{n:Nat}{D:List Deferred}{σ:Env}{H:List HP}{K:Act→World→Prop}(b:Nat){s:Dev}{Fr:List HP}[At H aG b s Fr](h:s.n%8=0→0<s.n→s.n≤1000000→GO B n D σ H K):GO B n D σ H K:=fun a w st=>by
 obtain⟨_,_,_,_,_,hw,_⟩:=tj (st.holds.pull aG b)
 exact h hw.line hw.pos hw.le a w st
inductive Out (α:Type) where
 | ok (a:α) (s:Dev)
 | off (s:Dev)
abbrev okV{α:Type}(enc:α→Value)(m:Out α)(v:Value)(s:Dev):Prop:=∃ a,m= .ok a s∧v=enc a
abbrev Ek{α:Type}(m:Out α)(c:List PanicEntry)(s:Dev):Prop:=m= .off s∧c=dN
abbrev DF(_:Unit):Value:= .tuple #[]
def Dev.has(s:Dev)(i:Int):Bool:=decide (0≤i)&&decide (i<s.n)
def Dev.load(s:Dev)(i:Int):Int:=if s.has i=true then s.now i.toNat else 0
def Dev.up(s:Dev):Dev:={s with pow:=s.pow.up}
def Dev.st(s:Dev)(i:Nat)(v:Int):Dev:={s with now:=upd s.now i v}
def Dev.fl(s:Dev)(i:Nat):Dev:={s with q:=upd s.q (i / 8) (some fun k=>s.now (i / 8*8+k))}
def eT(kept:Nat→Int)(q:Nat→Option (Nat→Int))(i:Nat):Int:=match q (i / 8) with
 | some f=>f (i%8)
 | none=>kept i
def Dev.fe(s:Dev):Dev:={s with kept:=eT s.kept s.q,q:=fun _=>none}
def Dev.store(s:Dev)(i v:Int):Out Int:=if s.has i=false then .ok 1 s else if s.pow.out=true then .off s else .ok 0 (s.up.st i.toNat v)
def Dev.flush(s:Dev)(i:Int):Out Int:=if s.has i=false then .ok 1 s else if s.pow.out=true then .off s else .ok 0 (s.up.fl i.toNat)
def Dev.fence(s:Dev):Out Unit:=if s.pow.out=true then .off s else .ok () s.up.fe
def Dev.crash(s:Dev)(c:Nat→Int):Dev:=
 let k:=fun i=>if c i%3=1 then eT s.kept s.q i else if c i%3=2 then s.now i else s.kept i
 {s with now:=k,kept:=k,q:=fun _=>none}
theorem ma(B:World)(Fr:List HP)(b:Nat)(s:Dev):
 ∀ w,Holds B (aG b s::Fr) w→Calls Tryz.prog 118 [ptr b].toArray w (bB B (aG b s::Fr) (i64 s.n)):=by
 refine au func118 aa ntmps118 aa (lR fun bn bk bq rest l hw=> ?_)
 have hw1:=hw.line
 have hw2:=hw.pos
 have hw3:=hw.le
 refine ac (ab (kPa aa aa (ad (ac (ab (kPm aa aa (kPv (ak aa) aa (kPv (aj (m:=_) gP aa aa) aa (kPv (ae isAgg25 aa aa) aa (kPv (bY aa runUnderlying25 ⟨_,rfl⟩ rfl) aa (kPa aa aa ?_)))))))))))
 refine ad (az ?_)
 exact ax results118 aa (fun w hh=>⟨rfl,dP hw hh⟩)
theorem ub(B:World)(Fr:List HP)(b:Nat)(s:Dev)(i:Int):
 ∀ w,Holds B (aG b s::Fr) w→Calls Tryz.prog 137 [ptr b,i64 i].toArray w (bB B (aG b s::Fr) (.bool (s.has i))):=by
 refine au func137 aa ntmps137 aa (lR fun bn bk bq rest l hw=> ?_)
 have hw1:=hw.line
 have hw2:=hw.pos
 have hw3:=hw.le
 refine ac (ab (kPa aa aa (ad (ac (ab (kPm aa aa (kPv (an aa aa aa) aa (kPm aa aa ?_))))))))
 apply dr (tp:=15) (t:=7) (σ1:=[(7,_),(4,_)]) 8 rfl ⟨rfl,rfl,trivial⟩
 ·intro hg1
  refine aq aa (ap aa) (.on aa aa (ah hg1)) aa aa (aq aa (ap aa) (.on aa aa (ah hg1)) aa aa (aq aa (ak aa) (.on aa aa (ah hg1)) aa aa (aq aa (aj (m:=_) gP aa aa) (.on aa aa (ah hg1)) aa aa (aq aa (ae isAgg25 aa aa) (.on aa aa (ah hg1)) aa aa (aq aa (bY aa runUnderlying25 ⟨_,rfl⟩ rfl) (.on aa aa (ah hg1)) aa aa (aq aa (an aa aa aa) (.on aa aa (ah hg1)) aa aa (kPv (aH aa hg1 aa) aa ?_)))))))
  exact ba aa ⟨rfl,rfl,trivial⟩ (cV hg1)
 ·intro hg1
  refine ar aa (.on aa aa (ai hg1)) aa (ar aa (.on aa aa (ai hg1)) aa (ar aa (.on aa aa (ai hg1)) aa (ar aa (.on aa aa (ai hg1)) aa (ar aa (.on aa aa (ai hg1)) aa (ar aa (.on aa aa (ai hg1)) aa (ar aa (.on aa aa (ai hg1)) aa (kPv (aL aa hg1 aa) aa ?_)))))))
  exact ba aa ⟨rfl,rfl,trivial⟩ (cW hg1)
 refine kPa aa aa (ad (az ?_))
 exact ax results137 aa (fun w hh=>⟨rfl,dP hw hh⟩)
theorem mV(B:World)(Fr:List HP)(q:Option Addr)(n cap:Nat)(cs:List Value)(hq:q≠none)(hn:cs.length≤1000000)(hc:cs.all aV=true)(hr:SlR B Fr (.slice q n cap) cs):
 ∀ w,Holds B Fr w→Calls Tryz.prog 104 [.slice q n cap].toArray w (Ret B (fun v H'=>∃ bn rest,v= .slice (some ⟨bn,0,none⟩) n (n+rest.length)∧H'=row bn (cs++rest) 26::Fr) (fun _ _=>False)):=by
 refine au func104 aa ntmps104 aa ?_
 obtain⟨_,_,e0,_⟩:=hr.ex
 obtain rfl:n=cs.length:=by injection e0
 refine ac (ab (kPa aa aa (ad (ac (ac (ab (kPm aa aa (kPv (yS runUnderlying25 aa aa aa) aa (ad (cf aa (by cases q with | none=>exact absurd aa hq | some _=>rfl) (ay ?_)))))))))))
 refine ac (ab (aC aa (ut runUnderlying25 sizeOf26) .free aa aa ?_))
 rintro _ _ ⟨b0,rfl,rfl⟩
 refine kPm aa aa (aC aa (ky aa aa runUnderlying25 runUnderlying25 ⟨_,rfl⟩ sizeOf26 zeroValue26 aa iy aa aa (hr.cons _) (by simp) (by simp) (by simp;omega) hc) .free aa aa (fun v H' hY=> ?_))
 have hY2:∃ bn rest,v= .slice (some ⟨bn,0,none⟩) cs.length (cs.length+rest.length)∧∀ w,Holds B H' w→Holds B (row bn (cs++rest) 26::Fr) w:=by
  rcases hY with ⟨h1,rfl,rfl⟩ | ⟨h1,bn,cn,rest,h2,_,rfl,rfl⟩
  ·have:cs=[]:=by simpa using h1
   subst this
   exact⟨b0,[],rfl,fun w h=>h⟩
  ·exact⟨bn,rest,by simp[←h2],fun w h=>by simpa using(h.front 1 aa).tail⟩
 obtain⟨bn,rest,rfl,hY3⟩:=hY2
 refine aK hY3 (kPa aa aa (ad (az ?_)))
 exact ax results104 aa (fun w hw=>⟨_,⟨_,_,rfl,rfl⟩,hw⟩)
theorem cH(B:World)(Fr:List HP)(b:Nat)(s:Dev)(i:Int):
 ∀ w,Holds B (aG b s::Fr) w→Calls Tryz.prog 71 [ptr b,i64 i].toArray w (bB B (aG b s::Fr) (w64 (s.load i))):=by
 refine au func71 aa ntmps71 aa (ac (ab (kPa aa aa (ad (ac (ac (ab (kPm aa aa (kPm aa aa (aE aa (aA call137 aa) (bU (fun Fr=>ub _ Fr _ _ _)) .free aa aa ?_))))))))))
 refine kPv (bF aa) aa (ad ?_)
 refine aW aa (fun h8=> ?_) (fun h8=> ?_)
 ·try simp only[decide_eq_true_eq,decide_eq_false_iff_not,Bool.not_eq_true',Bool.not_eq_false',Bool.or_eq_true,Bool.and_eq_true,Bool.and_eq_false_iff,Bool.or_eq_false_iff,beq_iff_eq,bne_iff_ne,beq_eq_false_iff_ne,bne_eq_false_iff_eq,ge_iff_le,gt_iff_lt,ne_eq] at h8
  refine ac (ab (kPa aa aa (ad (az ?_))))
  exact ax results71 aa (fun w hh=>by
   first
    | exact⟨by simp[Dev.load,h8],dP hw hh⟩
    | exact⟨by simp[Dev.load,h8],hh⟩)
 ·try simp only[decide_eq_true_eq,decide_eq_false_iff_not,Bool.not_eq_true',Bool.not_eq_false',Bool.or_eq_true,Bool.and_eq_true,Bool.and_eq_false_iff,Bool.or_eq_false_iff,beq_iff_eq,bne_iff_ne,beq_eq_false_iff_ne,bne_eq_false_iff_eq,ge_iff_le,gt_iff_lt,ne_eq] at h8
  refine ay (ac (ab (lR fun bn bk bq rest l hw=> ?_)))
  have hw1:=hw.line
  have hw2:=hw.pos
  have hw3:=hw.le
  have hi:0≤i∧i<s.n:=by simpa [Dev.has] using h8
  refine kPm aa aa (kPv (ak aa) aa (kPv (aj (m:=_) gP aa aa) aa (kPv (ae isAgg25 aa aa) aa (kPm aa aa (kPv (bZ runUnderlying25 sizeOf26 aa aa hi.1 hi.2) aa (kPv (ae isAgg26 aa (by rw[Nat.zero_add];exact eG (by omega))) aa (kPa aa aa (ad (ao [4] rfl (az ?_))))))))))
  exact ax results71 aa (fun w hh=>by
   first
    | exact⟨by simp[Dev.load,h8],dP hw hh⟩
    | exact⟨by simp[Dev.load,h8],hh⟩)
theorem cZ(B:World)(Fr:List HP)(b:Nat)(s:Dev)(i v:Int):
 ∀ w,Holds B (aG b s::Fr) w→Calls Tryz.prog 120 [ptr b,i64 i,w64 v].toArray w (Ret B (fun rv H'=>∃ s',okV (fun e=>i64 e) (s.store i v) rv s'∧H'=aG b s'::Fr) (fun c H'=>∃ s',Ek (s.store i v) c s'∧H'=aG b s'::Fr)):=by
 refine au func120 aa ntmps120 aa (ac (ab (kPa aa aa (ad (ac (ac (ab (kPm aa aa (kPm aa aa (aE aa (aA call137 aa) (bU (fun Fr=>ub _ Fr _ _ _)) .free aa aa ?_))))))))))
 refine kPv (bF aa) aa (ad ?_)
 refine aW aa (fun h10=> ?_) (fun h10=> ?_)
 ·have hhas:s.has i=false:=by simpa using h10
  refine ac (ab (kPa aa aa (ad (az ?_))))
  exact ax results120 aa (fun w hh=>⟨_,⟨s,⟨1,by simp[Dev.store,hhas],rfl⟩,rfl⟩,hh⟩)
 ·have hhas:s.has i=true:=by simpa using h10
  have hi:0≤i∧i<s.n:=by simpa [Dev.has] using hhas
  refine ay (ac (ab (lR fun bn bk bq rest l hw=> ?_)))
  have hw1:=hw.line
  have hw2:=hw.pos
  have hw3:=hw.le
  refine kPm aa aa (kPv (ak aa) aa (kPv (aj (m:=_) rG aa aa) aa (kPv (ae isAgg78 aa aa) aa ?_)))
  refine aY aa (aA call165 aa) (da (fun Fr=>m8 _ Fr _ _)) .free aa aa ?_ ?_
  rotate_left
  ·rintro _ _ ⟨_,⟨ho,rfl,rfl⟩,rfl⟩
   exact bz fun w hh=>⟨_,⟨s,⟨by simp[Dev.store,hhas,ho],rfl⟩,rfl⟩,dP hw hh⟩
  rintro _ _ ⟨_,⟨ho,rfl,rfl⟩,rfl⟩
  refine ad (ao [6,0,1,2] rfl (ac (ab (kPm aa aa (kPv (ak aa) aa (kPv (aj (m:=_) gP aa aa) aa (kPv (ae isAgg25 aa aa) aa (kPm aa aa (kPm aa aa (kPv (bZ runUnderlying25 sizeOf26 aa aa hi.1 hi.2) aa (aD aa (aR sizeOf26 aa aa aa (by simp[Nat.blt_eq,bu];omega)) .free aa ?_)))))))))))
  rintro _ _ rfl
  refine ad (ao [6] rfl (ac (ab (kPa aa aa (ad (az ?_))))))
  exact ax results120 aa (fun w hh=>by
   refine⟨_,⟨s.up.st i.toNat v,⟨0,by simp[Dev.store,hhas,ho],rfl⟩,rfl⟩,dP (s:=s.up.st i.toNat v) (bn:=bn) (bk:=bk) (bq:=bq) (rest:=rest) (l:=l) ⟨hw.line,hw.pos,hw.le,hw.rep⟩ ?_⟩
   rw[Nat.zero_add,pF] at hh
   have e:(tab s.n fun j=>w64 ((s.up.st i.toNat v).now j))=tab s.n (upd (fun i=>w64 (s.now i)) i.toNat (w64 v)):=gt fun j _=>by
    simp only[Dev.st,upd];split<;>rfl
   rw[←e] at hh
   exact hh)
theorem Ef{k:Nat}(h:k≤1000000000):IntKind.i64.wrap ((k:Int).tdiv 8)=((k / 8:Nat):Int):=by
 rw[gh (by rw[Int.tdiv_eq_ediv_of_nonneg (by omega)];omega),Int.tdiv_eq_ediv_of_nonneg (by omega)];omega
theorem Fj{k:Nat}:((k:Int).tmod 8)=((k%8:Nat):Int):=by
 rw[Int.tmod_eq_emod_of_nonneg (by omega)];omega
theorem zf{α:Type}{n a m:Nat}{f:Nat→α}(h:a+m≤n):((tab n f).drop a).take m=tab m (fun j=>f (a+j)):=by
 apply List.ext_getElem?
 intro j
 by_cases hj:j<m
 ·rw[List.getElem?_take_of_lt hj,List.getElem?_drop,eG (by omega),eG hj]
 ·rw[List.getElem?_eq_none (by rw[List.length_take,List.length_drop,bu];omega),List.getElem?_eq_none (by rw[bu];omega)]
theorem AL{n:Nat}{qq:Nat→Option (Nat→Int)}{l:List (Int×List Int)}(h:Am n qq l)(k:Nat)(f:Nat→Int)(hk:k*8+8≤n):Am n (upd qq k (some f)) (mset l k (tab 8 f)):=by
 refine⟨fun p hp=> ?_,fun j=> ?_,fun j g hg=> ?_⟩
 ·rcases nx hp with rfl | hp
  ·simp
  ·exact h.pos p hp
 ·rw[fL]
  simp only[upd]
  by_cases e:j=k
  ·subst e;simp
  ·rw[if_neg (by omega),if_neg e];exact h.get j
 ·simp only[upd] at hg
  split at hg
  ·rename_i e;subst e;exact hk
  ·exact h.lt j g hg
theorem qL(n:Nat):Am n (fun _=>none) []:=⟨by simp,fun k=>rfl,fun _ _ h=>by cases h⟩
theorem ed(B:World)(Fr:List HP)(b:Nat)(s:Dev)(i:Int):
 ∀ w,Holds B (aG b s::Fr) w→Calls Tryz.prog 126 [ptr b,i64 i].toArray w (Ret B (fun rv H'=>∃ s',okV (fun e=>i64 e) (s.flush i) rv s'∧H'=aG b s'::Fr) (fun c H'=>∃ s',Ek (s.flush i) c s'∧H'=aG b s'::Fr)):=by
 refine au func126 aa ntmps126 aa (ac (ab (kPa aa aa (ad (ac (ac (ab (kPm aa aa (kPm aa aa (aE aa (aA call137 aa) (bU (fun Fr=>ub _ Fr _ _ _)) .free aa aa ?_))))))))))
 refine kPv (bF aa) aa (ad ?_)
 refine aW aa (fun h9=> ?_) (fun h9=> ?_)
 ·have hhas:s.has i=false:=by simpa using h9
  refine ac (ab (kPa aa aa (ad (az ?_))))
  exact ax results126 aa (fun w hh=>⟨_,⟨s,⟨1,by simp[Dev.flush,hhas],rfl⟩,rfl⟩,hh⟩)
 ·have hhas:s.has i=true:=by simpa using h9
  have hi:0≤i∧i<s.n:=by simpa [Dev.has] using hhas
  obtain⟨k,rfl⟩:∃ k:Nat,i=k:=⟨i.toNat,by omega⟩
  have hk:k<s.n:=by omega
  refine ay (ac (ab (lR fun bn bk bq rest l hw=> ?_)))
  have hw1:=hw.line
  have hw2:=hw.pos
  have hw3:=hw.le
  have hk8:k / 8*8+8≤s.n:=by omega
  refine kPm aa aa (kPv (ak aa) aa (kPv (aj (m:=_) rG aa aa) aa (kPv (ae isAgg78 aa aa) aa ?_)))
  refine aY aa (aA call165 aa) (da (fun Fr=>m8 _ Fr _ _)) .free aa aa ?_ ?_
  rotate_left
  ·rintro _ _ ⟨_,⟨ho,rfl,rfl⟩,rfl⟩
   exact bz fun w hh=>⟨_,⟨s,⟨by simp[Dev.flush,hhas,ho],rfl⟩,rfl⟩,dP hw hh⟩
  rintro _ _ ⟨_,⟨ho,rfl,rfl⟩,rfl⟩
  refine ad (ao [4,0,1] rfl (ac (ab (kPm aa aa (kPv (gp aa aa (by decide) (Ef (by omega))) aa (kPa aa aa (ad (ac (cD 17 Tryz.mixed (by kernel_rfl) (by kernel_rfl) ?_)))))))))
  refine kQm aa aa (kQv (ak aa) aa (kQv (aj (m:=_) lX aa aa) aa (kQv (ae isAgg109 aa aa) aa (kQm aa aa (kQm aa aa (kQv (ak aa) aa (kQv (aj (m:=_) gP aa aa) aa (kQv (ae isAgg25 aa aa) aa (kQm aa aa (kQv (rI (c:=((k / 8*8:Nat):Int)) aa aa (by rw[gh (by omega)];omega)) aa (kQm aa aa ?_)))))))))))
  refine kQv (oP (c:=((k / 8+1:Nat):Int)) aa aa (by rw[gh (by omega)];omega)) aa (kQv (rI (c:=(((k / 8+1)*8:Nat):Int)) aa aa (by rw[gh (by omega)];omega)) aa (kQv (n0 (m:=k / 8*8) runUnderlying25 sizeOf26 aa (.yes aa) (.yes aa) (by omega) (by omega) (.inl (by omega)) (by omega)) aa (kQv (EB runUnderlying112 aa (by omega)) aa (kQv (am isAgg112 sizeOf112 aa (by rw[Nat.ble_eq,bu];omega)) aa ?_))))
  refine bR (aD aa (ip (u:=tab 8 fun j=>s.now (k / 8*8+j)) runUnderlying109 runUnderlying3 aa aa aa (by rw[zf hk8, ←na (g:=w64)])) .free aa ?_)
  rintro _ _ rfl
  refine ad (ao [4] rfl (ac (ab (kPa aa aa (ad (az ?_))))))
  exact ax results126 aa (fun w hh=>by
   refine⟨_,⟨s.up.fl k,⟨0,by simp[Dev.flush,hhas,ho],rfl⟩,rfl⟩,dP (s:=s.up.fl k) (bn:=bn) (bk:=bk) (bq:=bq) (rest:=rest) (l:=mset l ((k / 8:Nat):Int) (tab 8 fun j=>s.now (k / 8*8+j))) ⟨hw.line,hw.pos,hw.le,?_⟩ hh⟩
   exact AL hw.rep (k / 8) _ hk8)
theorem zr{N:Nat}{xs:List Int}(h:xs.length≤N):dJ (List.replicate N (.int .u64 0)) 0 (xs.map w64)=tab N fun i=>w64 (xs.getD i 0):=by
 apply List.ext_getElem?
 intro j
 rw[kL _ _ _ _ (by simp;omega)]
 by_cases hj:j<N
 ·rw[eG hj]
  by_cases h2:j<xs.length
  ·rw[if_pos (by simp;omega)];simp[h2,List.getD]
  ·rw[if_neg (by simp;omega)]
   simp[hj,List.getD,List.getElem?_eq_none (Nat.le_of_not_lt h2)]
 ·rw[if_neg (by simp;omega),List.getElem?_eq_none (by simp;omega),List.getElem?_eq_none (by rw[bu];omega)]
def qof(l:List (Int×List Int))(k:Nat):Option (Nat→Int):=(bi l k).map fun ws j=>ws.getD j 0
theorem vu{α:Type}{l:List (Int×α)}{p:Int×α}(h:p.1∉l.map Prod.fst)(k:Int):bi (l++[p]) k=if k=p.1 then some p.2 else bi l k:=by
 induction l with
 | nil=>
   simp only[List.nil_append,bi]
   by_cases e:p.1=k
   ·simp[e]
   ·rw[if_neg e,if_neg (Ne.symm e)]
 | cons a l ih=>
   simp only[List.map_cons,List.mem_cons,not_or] at h
   simp only[List.cons_append,bi]
   by_cases e:a.1=k
   ·rw[if_pos e,if_pos e,if_neg (by rintro rfl;exact h.1 e.symm)]
   ·rw[if_neg e,if_neg e,ih h.2]
theorem zz{α:Type}{l d:List (Int×α)}(hl:(l.map Prod.fst).Nodup)(hd:(d.map Prod.fst).Nodup)(h1:∀ p∈d,p∈l)(h2:∀ p∈l,p∈d)(k:Int):bi d k=bi l k:=by
 cases e:bi d k with
 | some a=>exact(jh hl (h1 _ (qZ e))).symm
 | none=>
   cases e2:bi l k with
   | none=>rfl
   | some a=>have:=jh hd (h2 _ (qZ e2));simp only at this;rw[e] at this;cases this
theorem mH{cs vs:List Value}(h:vs.length=cs.length):dJ cs 0 vs=vs:=by
 apply List.ext_getElem?
 intro j
 rw[kL _ _ _ _ (by omega)]
 by_cases hj:j<vs.length
 ·rw[if_pos (by omega)];simp
 ·rw[if_neg (by omega),List.getElem?_eq_none (by omega),List.getElem?_eq_none (by omega)]
theorem uU{n j:Nat}{f:Nat→Int}(h:j<n):(tab n f).getD j 0=f j:=by simp[List.getD,eG h]
theorem pW(l:List Int):(l.map w64).all aV=true:=by simp[aV]
theorem xx{kept:Nat→Int}{d:List (Int×List Int)}{k:Nat}{f:Nat→Int}(hn:(k:Int)∉d.map Prod.fst)(j:Nat):
 eT kept (qof (d++[((k:Int),tab 8 f)])) j=if k*8≤j∧j<k*8+8 then f (j - k*8) else eT kept (qof d) j:=by
 simp only[eT,qof]
 rw[vu hn]
 by_cases e:j / 8=k
 ·subst e
  rw[if_pos rfl,if_pos (by omega)]
  simp only[Option.map_some]
  rw[uU (by omega)]
  congr 1;omega
 ·rw[if_neg (by omega),if_neg (by omega)]
theorem zT{kept:Nat→Int}{q:Nat→Option (Nat→Int)}{l d:List (Int×List Int)}{n:Nat}(hr:Am n q l)(hl:(l.map Prod.fst).Nodup)(hd:(d.map Prod.fst).Nodup)(h1:∀ p∈d,p∈l)(h2:∀ p∈l,p∈d):eT kept (qof d)=eT kept q:=by
 funext j
 simp only[eT,qof]
 rw[zz hl hd h1 h2,hr.get]
 cases q (j / 8) with
 | none=>rfl
 | some f=>simp only[Option.map_some];exact uU (by omega)
theorem wV{n:Nat}{q:Nat→Option (Nat→Int)}{l:List (Int×List Int)}(h:Am n q l)(hl:(l.map Prod.fst).Nodup){p:Int×List Int}(hp:p∈l):∃ (k:Nat) (f:Nat→Int),p=((k:Int),tab 8 f)∧k*8+8≤n:=by
 have h0:=h.pos p hp
 have h1:=jh hl hp
 have h2:=h.get p.1.toNat
 rw[show((p.1.toNat:Nat):Int)=p.1 by omega,h1] at h2
 cases e:q p.1.toNat with
 | none=>rw[e] at h2;cases h2
 | some f=>
   rw[e] at h2
   refine⟨p.1.toNat,f,?_,h.lt _ _ e⟩
   injection h2 with h2
   cases p;simp only at h0 h2 ⊢;rw[h2,Int.toNat_of_nonneg h0]
theorem vo{d l:List Int}(hd:d.Nodup)(h:∀ x∈d,x∈l):d.length≤l.length:=by
 induction d generalizing l with
 | nil=>simp
 | cons a d ih=>
   rw[List.nodup_cons] at hd
   have ha:=h a (by simp)
   have:=ih (l:=l.erase a) hd.2 (fun x hx=>(List.mem_erase_of_ne (by rintro rfl;exact hd.1 hx)).2 (h x (by simp[hx])))
   rw[List.length_erase_of_mem ha] at this
   have:=List.length_pos_of_mem ha
   simp;omega
theorem jK{α:Type}{l d:List (Int×α)}{p:Int×α}(hd:((d++[p]).map Prod.fst).Nodup)(h:∀ x∈d++[p],x∈l):d.length<l.length:=by
 have:=vo (l:=l.map Prod.fst) hd (fun x hx=>by
  obtain⟨y,hy,rfl⟩:=List.mem_map.1 hx
  exact List.mem_map_of_mem (h y hy))
 simp at this;omega
theorem Holds.iter_w{B:World}{H:List HP}{α:Type}{kk:IntKind}{enc:α→Value}{r it:Nat}{l done:List (Int×α)}{U:List (Int×α)→List HP}{E:List HP}{w:World}(h:Holds B H w)[m:lz H it kk enc r l done U E]:(l.map Prod.fst).Nodup∧(done.map Prod.fst).Nodup∧∀ p∈done,p∈l:=by
 obtain⟨bn,c,_,_,h3,h4,h5⟩:=m.obj h
 exact⟨h3.keys,h5,h4⟩
theorem jL{B:World}{n:Nat}{D:List Deferred}{σ:Env}{H:List HP}{K:Act→World→Prop}{α:Type}{kk:IntKind}{enc:α→Value}{r:Nat}(it:Nat){l done:List (Int×α)}{U:List (Int×α)→List HP}{E:List HP}[m:lz H it kk enc r l done U E](h:(l.map Prod.fst).Nodup→(done.map Prod.fst).Nodup→(∀ p∈done,p∈l)→GO B n D σ H K):GO B n D σ H K:=fun a w st=>by
 obtain⟨h1,h2,h3⟩:=st.holds.iter_w (it:=it)
 exact h h1 h2 h3 a w st
theorem fK(B:World)(Fr:List HP)(b:Nat)(s:Dev):
 ∀ w,Holds B (aG b s::Fr) w→Calls Tryz.prog 127 [ptr b].toArray w (Ret B (fun rv H'=>∃ s',okV DF (s.fence) rv s'∧H'=aG b s'::Fr) (fun c H'=>∃ s',Ek (s.fence) c s'∧H'=aG b s'::Fr)):=by
 refine au func127 aa ntmps127 aa (lR fun bn bk bq rest l hw=> ?_)
 have hw1:=hw.line
 have hw2:=hw.pos
 have hw3:=hw.le
 refine ac (ab (kPm aa aa (kPv (ak aa) aa (kPv (aj (m:=_) rG aa aa) aa (kPv (ae isAgg78 aa aa) aa ?_)))))
 refine aY aa (aA call165 aa) (da (fun Fr=>m8 _ Fr _ _)) .free aa aa ?_ ?_
 rotate_left
 ·rintro _ _ ⟨_,⟨ho,rfl,rfl⟩,rfl⟩
  exact bz fun w hh=>⟨_,⟨s,⟨by simp[Dev.fence,ho],rfl⟩,rfl⟩,dP hw hh⟩
 rintro _ _ ⟨_,⟨ho,rfl,rfl⟩,rfl⟩
 refine ad (ac (ac (ab (kPm aa aa (kPv (ak aa) aa (kPv (aj (m:=_) lX aa aa) aa (kPv (ae isAgg109 aa aa) aa (aC aa (n7 runUnderlying109 aa) .free aa aa ?_))))))))
 rintro _ _ ⟨it,rfl,rfl⟩
 refine ad (ao [13,0] rfl (aO (dY (ι:=List (Int×List Int)) (fun d=>d.length≤l.length) (fun d=>[(0,ptr b),(13,.pointer (some ⟨it,0,none⟩))]) (fun done=>row b [.pointer (some ⟨s.pa,0,none⟩),.slice (some ⟨bn,0,none⟩) s.n s.n,.slice (some ⟨bk,0,none⟩) s.n (s.n+rest.length),.map (some bq)] 111::row bn (tab s.n fun i=>w64 (s.now i)) 26::row bk (tab s.n (fun i=>w64 (eT s.kept (qof done) i))++rest) 26::gD .i64 uy bq it l done::lr s.pa s.pow.up::Fr) (fun d=>l.length - d.length) [] (Nat.zero_le _) (fun a w st=>st.to ⟨rfl,rfl,trivial⟩ id) ?_)))
 intro done hdone
 refine ac (ab (aC aa (pU aa) .free aa aa ?_))
 rintro _ _ ⟨bb,vs,done',rfl,hvs,rfl,hno,hyes⟩
 refine kPv (aB aa hvs) aa (ad (ac ?_))
 refine aW aa (fun h15=> ?_) (fun h15=> ?_)
 ·obtain⟨pp,hpl,hpn,rfl⟩:=hyes h15
  refine jL it fun hl hd hsub=> ?_
  obtain⟨k,f,rfl,hk⟩:=wV hw.rep hl hpl
  refine ay (aO (ac (ab (kPv (n3 (p0:=((k:Int),tab 8 f)) (dn:=done) aa) aa (kPv (aB aa aa) aa (kPv (aB aa aa) aa (aC aa (aN zeroValue112 aa) .free aa aa ?_)))))))
  rintro _ _ ⟨b3,rfl,rfl⟩
  refine kPa aa aa (aD aa (aI (vs:=(tab 8 f).map w64) sizeOf112 aa aa (by rw[List.length_map,bu]) (pW _) (by rw[List.length_map,bu];rfl)) .free aa ?_)
  rintro _ _ rfl
  refine ad (cD 8 Tryz.mixed (by kernel_rfl) (by kernel_rfl) ?_)
  refine kQm aa aa (kQv (ak aa) aa (kQv (aj (m:=_) nY aa aa) aa (kQv (ae isAgg25 aa aa) aa (kQm aa aa (kQv (rI (c:=((k*8:Nat):Int)) aa aa (by rw[gh (by omega)];omega)) aa (kQv (n0 (m:=k*8) (h:=s.n) runUnderlying25 sizeOf26 aa (.yes aa) .no (by omega) (by omega) (.inl (by omega)) (by omega)) aa (kQv (zU (m:=0) (l:=0) (h:=8) runUnderlying112 sizeOf26 aa .no .no (by omega) (by omega) (.inr aa) (by omega)) aa (bR (aC aa (uE (n:=8) (cs:=(tab 8 f).map w64) aa runUnderlying25 sizeOf26 aa aa (SlR.row (by rw[mH (by rw[List.length_map,bu];rfl),List.drop_zero,List.take_of_length_le (by rw[List.length_map,bu];omega)]) (by rw[List.length_map,bu])) (by rw[List.length_map,bu];omega) (by rw[List.length_append,bu];omega) (pW _)) .free aa aa ?_)))))))))
  rintro _ _ ⟨rfl,rfl⟩
  refine ad (ao [13,0] rfl (cg (σ':=[(0,_),(13,_)]) ⟨rfl,rfl,trivial⟩ ?_))
  exact fun a w st=>⟨done++[((k:Int),tab 8 f)],by have:=jK hd hsub;simp;omega,by have:=jK hd hsub;simp;omega,st.to ⟨rfl,rfl,trivial⟩ (fun hh=>by
   have h:=hh.tail
   rw[List.take_of_length_le (by rw[List.length_map,bu];omega),na,wM hk] at h
   have e:(tab s.n fun j=>if k*8≤j∧j<k*8+8 then w64 (f (j - k*8)) else w64 (eT s.kept (qof done) j))=tab s.n fun j=>w64 (eT s.kept (qof (done++[((k:Int),tab 8 f)])) j):=gt fun j _=>by
    rw[xx hpn];split<;>rfl
   rw[e] at h
   exact h)⟩
 ·obtain⟨rfl,hall⟩:=hno h15
  refine jL it fun hl hd hsub=> ?_
  rw[zT hw.rep hl hd hsub hall]
  refine aK (fun w hh=>hh.iter_end it) (bT (ab (kPm aa aa (kPv (ak aa) aa (kPv (aj (m:=_) lX aa aa) aa (kPv (ae isAgg109 aa aa) aa (aD aa (n8 aa runUnderlying109 aa) .free aa ?_)))))))
  rintro _ _ rfl
  refine ad (ao [] rfl ?_)
  exact cS results127 (fun w hh=>by
   refine⟨_,⟨s.up.fe,⟨(),by simp[Dev.fence,ho],rfl⟩,rfl⟩,dP (s:=s.up.fe) (bn:=bn) (bk:=bk) (bq:=bq) (rest:=rest) (l:=[]) ⟨hw.line,hw.pos,hw.le,qL _⟩ hh⟩)
theorem zq(B:World)(Fr:List HP)(b:Nat)(s:Dev):
 ∀ w,Holds B (aG b s::Fr) w→Calls Tryz.prog 42 [ptr b].toArray w (Ret B (fun rv H'=>∃ bw rest,rv= .slice (some ⟨bw,0,none⟩) s.n (s.n+rest.length)∧H'=row bw (tab s.n (fun i=>w64 (s.now i))++rest) 26::aG b s::Fr) (fun _ _=>False)):=by
 refine au func42 aa ntmps42 aa (lR fun bn bk bq rest l hw=> ?_)
 have hw1:=hw.line
 have hw2:=hw.pos
 have hw3:=hw.le
 refine ac (ab (kPa aa aa (ad (ac (ab (kPm aa aa (kPv (ak aa) aa (kPv (aj (m:=_) gP aa aa) aa (kPv (ae isAgg25 aa aa) aa ?_)))))))))
 refine aQ aa (aA call104 aa) (mV _ _ _ _ _ (tab s.n fun i=>w64 (s.now i)) (by simp) (by rw[bu];omega) (by simp[tab,aV]) (SlR.row (by first | (rw[List.drop_zero,List.take_of_length_le (by rw[bu];omega)]) | (rw[List.drop_zero,List.take_append_of_le_length (by rw[bu];omega),List.take_of_length_le (by rw[bu];omega)])) (by rw[bu]))) .free aa aa ?_
 rintro _ _ ⟨bw,rest',rfl,rfl⟩
 refine kPa aa aa (ad (az ?_))
 exact ax results42 aa (fun w hh=>⟨_,⟨bw,rest',rfl,rfl⟩,(dP (Fr:=row bw _ _::Fr) hw (hh.back 5 (by simp))).front 1 aa⟩)
theorem ym(B:World)(Fr:List HP)(pa:Nat)(pw:Pow)(sv:Value)(xs:List Int)(hx0:0<xs.length)(hx1:xs.length≤100000)(hr:SlR B Fr sv (xs.map w64)):
 ∀ w,Holds B (lr pa pw::Fr) w→Calls Tryz.prog 66 [ptr pa,sv].toArray w (Ret B (fun rv H'=>∃ b,rv=ptr b∧H'=aG b ⟨pa,pw,(xs.length+7) / 8*8,fun i=>xs.getD i 0,fun i=>xs.getD i 0,fun _=>none⟩::Fr) (fun _ _=>False)):=by
 refine au func66 aa ntmps66 aa ?_
 obtain⟨qa,qc,rfl,hqc⟩:=hr.ex
 rw[List.length_map] at hqc ⊢
 generalize hN:(xs.length+7) / 8*8=N
 rw[List.length_map] at hr
 refine ac (ab (kPa aa aa (ad (ac (ab (kPm aa aa (kPv (bY aa runUnderlying25 ⟨_,rfl⟩ rfl) aa (kPv (oP (c:=((xs.length+8:Nat):Int)) aa aa (by rw[gh (by omega)];omega)) aa (kPv (rH (c:=((xs.length+7:Nat):Int)) aa aa (by rw[gh (by omega)];omega)) aa (kPv (gp aa aa (by decide) (Ef (by omega))) aa (kPv (rI (c:=(N:Int)) aa aa (by rw[gh (by omega)];omega)) aa ?_)))))))))))
 refine kPa aa aa (ad (ac (ab (kPm aa aa (aC aa (jO runUnderlying25 iy sizeOf26 zeroValue26 aa aa aa (by omega)) .free aa aa ?_)))))
 rintro _ _ ⟨bn,rfl,rfl⟩
 refine kPa aa aa (ad (ao [6,4,0,1] rfl (ac (ab (kPm aa aa (kPm aa aa (aC aa (uE (n:=xs.length) (cs:=xs.map w64) aa runUnderlying25 sizeOf26 aa aa ((hr.cons _).cons _) (by rw[List.length_map];omega) (by simp;omega) (pW _)) .free aa aa ?_)))))))
 rintro _ _ ⟨rfl,rfl⟩
 rw[List.take_of_length_le (by simp),zr (by omega)]
 refine ad (ac (ab (kPm aa aa (kPm aa aa (kPm aa aa (aQ aa (aA call104 aa) (mV _ _ _ _ _ (tab N fun i=>w64 (xs.getD i 0)) (by simp) (by rw[bu];omega) (by simp[tab,aV]) (SlR.row (by rw[List.drop_zero,List.take_of_length_le (by rw[bu];omega)]) (by rw[bu]))) .free aa aa ?_))))))
 rintro _ _ ⟨bk,rest',rfl,rfl⟩
 refine aC aa (eM .i64 uy) .free aa aa ?_
 rintro _ _ ⟨bq,rfl,rfl⟩
 refine aq aa (aZ aa (pC _ _ _ _ (by first | rfl | assumption) (by first | rfl | assumption) (by first | rfl | assumption) (by first | rfl | assumption))) .free rfl rfl ?_;refine aC aa (bx aa) .free aa aa ?_
 rintro _ _ ⟨b24,rfl,rfl⟩
 refine kPa aa aa (ad (ao [4] rfl (az ?_)))
 exact ax results66 aa (fun w hh=>⟨_,⟨_,rfl,rfl⟩,dP (s:=⟨pa,pw,N,fun i=>xs.getD i 0,fun i=>xs.getD i 0,fun _=>none⟩) (rest:=rest') (l:=[]) ⟨by simp only;omega,by simp only;omega,by simp only;omega,qL _⟩ ((((hh.front 1 aa).front 2 aa).front 3 aa).front 3 aa)⟩)
def cgo(s:Dev)(c:Nat→Int)(i:Nat)(j:Nat):Value:=w64 (if j<i then (s.crash c).kept j else s.kept j)
theorem iJ{s:Dev}{c:Nat→Int}{i:Nat}(h:(s.crash c).kept i=s.kept i):cgo s c (i+1)=cgo s c i:=by
 funext j
 simp only[cgo]
 by_cases e:j=i
 ·subst e;simp[h]
 ·by_cases e2:j<i
  ·rw[if_pos e2,if_pos (by omega)]
  ·rw[if_neg e2,if_neg (by omega)]
theorem jP{s:Dev}{c:Nat→Int}{i n:Nat}{rest:List Value}{x:Int}(hi:i<n)(h:(s.crash c).kept i=x):(tab n (cgo s c i)++rest).set (0+(i:Int).toNat) (w64 x)=tab n (cgo s c (i+1))++rest:=by
 rw[Nat.zero_add,Int.toNat_natCast,List.set_append_left _ _ (by rw[bu];exact hi),pF]
 congr 1
 refine gt fun j _=> ?_
 simp only[upd,cgo]
 by_cases e:j=i
 ·subst e;simp[h]
 ·rw[if_neg e]
  by_cases e2:j<i
  ·rw[if_pos e2,if_pos (by omega)]
  ·rw[if_neg e2,if_neg (by omega)]
theorem B3(s:Dev)(c:Nat→Int):cgo s c 0=fun j=>w64 (s.kept j):=by funext j;simp[cgo]
theorem Du(s:Dev)(c:Nat→Int):tab s.n (cgo s c s.n)=tab s.n fun j=>w64 ((s.crash c).kept j):=gt fun j hj=>by simp[cgo,hj]
theorem Em{s:Dev}{l:List (Int×List Int)}(hw:Cj s l)(k:Nat):(Value.tuple #[sr uy (.agg #[.int .u64 0,.int .u64 0,.int .u64 0,.int .u64 0,.int .u64 0,.int .u64 0,.int .u64 0,.int .u64 0]) (bi l (k:Int)),.bool (bi l (k:Int)).isSome])= .tuple #[uy (tab 8 ((s.q k).getD fun _=>0)),.bool (s.q k).isSome]:=by
 rw[hw.rep.get]
 cases s.q k<;>rfl
structure DC(B:World)(Fr:List HP)(g:FuncId)(cap:List Value)(n:Nat)(c:Nat→Int):Prop where
 enter:∀ args w,(callFunc g args).run Tryz.prog w= .ok (.enter g args) w
 pos:∀ i,0≤c i
 says:∀ (H:List HP) [lu H Fr] (i:Nat),i<n→∀ w,Holds B H w→Calls Tryz.prog g ([]++[i64 i]++cap).toArray w (bB B H (.int .u8 (c i)))
theorem zs(B:World)(Fr:List HP)(b:Nat)(s:Dev)(g:FuncId)(cap:List Value)(c:Nat→Int)(hg:DC B Fr g cap s.n c):
 ∀ w,Holds B (aG b s::Fr) w→Calls Tryz.prog 16 [ptr b,.func (.func g) [].toArray cap.toArray].toArray w (Ret B (fun _ H'=>H'=aG b (s.crash c)::Fr) (fun _ _=>False)):=by
 refine au func16 aa ntmps16 aa (lR fun bn bk bq rest l hw=> ?_)
 have hw1:=hw.line
 have hw2:=hw.pos
 have hw3:=hw.le
 refine ac (ac (ab (kPm aa aa (kPv (ak aa) aa (kPv (aj (m:=_) gP aa aa) aa (kPv (ae isAgg25 aa aa) aa (kPv (bY aa runUnderlying25 ⟨_,rfl⟩ rfl) aa (kPm aa aa (ad (aO ?_))))))))))
 rw[←B3 s c]
 refine dY (ι:=Nat) (fun i=>i≤s.n) (fun i=>[(0,ptr b),(1,.func (.func g) [].toArray cap.toArray),(11,i64 s.n),(12,i64 i)]) (fun i=>row b [.pointer (some ⟨s.pa,0,none⟩),.slice (some ⟨bn,0,none⟩) s.n s.n,.slice (some ⟨bk,0,none⟩) s.n (s.n+rest.length),.map (some bq)] 111::row bn (tab s.n fun i=>w64 (s.now i)) 26::row bk (tab s.n (cgo s c (i))++rest) 26::bJ .i64 uy bq l::lr s.pa s.pow::Fr) (fun i=>s.n - i) 0 (Nat.zero_le _) (fun a w st=>st.to ⟨rfl,rfl,rfl,rfl,trivial⟩ id) ?_
 intro i hi
 refine ac (ab (kPv (an aa aa aa) aa (ad (ac ?_))))
 refine aW aa (fun h13=> ?_) (fun h13=> ?_)
 ·have hin:i<s.n:=by simpa using h13
  refine ay (ac (aO (ac (ab (kPm aa aa (kPa aa aa (ad (ac (ab (kPm aa aa (kPv (ak aa) aa ?_)))))))))))
  refine kPv (aj (m:=_) lX aa aa) aa (kPv (ae isAgg109 aa aa) aa (kPm aa aa (kPv (gp aa aa (by decide) (Ef (by omega))) aa (kPv ((fE runUnderlying109 runUnderlying3 zeroValue112 aa aa).eq (Em hw (i / 8))) aa (kPm aa aa (kPv (aB aa aa) aa (kPv (aB aa aa) aa (aC aa (aN zeroValue112 aa) .free aa aa ?_))))))))
  rintro _ _ ⟨b5,rfl,rfl⟩
  refine aD aa (aI (vs:=(tab 8 ((s.q (i / 8)).getD fun _=>0)).map w64) sizeOf112 aa aa (by rw[List.length_map,bu]) (pW _) (by rw[List.length_map,bu];rfl)) .free aa ?_
  rintro _ _ rfl
  refine kPa aa aa (ad (ao [6,5,4,12,11,0,1] rfl (ac (ab (kPm aa aa (kPm aa aa ?_))))))
  refine aE aa (ku hg.enter aa aa) (hg.says _ i hin) .free aa aa ?_
  refine kPv (im (c:=c i%3) aa aa (by decide) (Int.tmod_eq_emod_of_nonneg (hg.pos i))) aa (ad (aO (ac (ab (kPv (an aa aa aa) aa (kPa aa aa (ad ?_)))))))
  refine aW aa (fun h29=> ?_) (fun h29=> ?_)
  ·try simp only[decide_eq_true_eq,decide_eq_false_iff_not,Bool.not_eq_true',Bool.not_eq_false',Bool.or_eq_true,Bool.and_eq_true,Bool.and_eq_false_iff,Bool.or_eq_false_iff,beq_iff_eq,bne_iff_ne,beq_eq_false_iff_ne,bne_eq_false_iff_eq,ge_iff_le,gt_iff_lt,ne_eq] at h29
   refine ac (ab (kPm aa aa (ad (ao [31,5,4,12,11,0,1] rfl ?_))))
   refine aW aa (fun h31=> ?_) (fun h31=> ?_)
   ·try simp only[decide_eq_true_eq,decide_eq_false_iff_not,Bool.not_eq_true',Bool.not_eq_false',Bool.or_eq_true,Bool.and_eq_true,Bool.and_eq_false_iff,Bool.or_eq_false_iff,beq_iff_eq,bne_iff_ne,beq_eq_false_iff_ne,bne_eq_false_iff_eq,ge_iff_le,gt_iff_lt,ne_eq] at h31
    refine cD 10 Tryz.mixed (by kernel_rfl) (by kernel_rfl) ?_
    refine kQm aa aa (kQv (ak aa) aa (kQv (aj (m:=_) nY aa aa) aa (kQv (ae isAgg25 aa aa) aa (kQm aa aa (kQm aa aa (kQv (im aa aa (by decide) Fj) aa (kQv (rM (m:=i%8) runUnderlying112 sizeOf26 aa aa (by omega) (by omega) (by omega)) aa (kQv (ae (v:=w64 (((s.q (i / 8)).getD fun _=>0) (i%8))) isAgg26 aa (by rw[mH (by rw[List.length_map,bu];rfl),na,eG (by omega)])) aa (kQv (bZ runUnderlying25 sizeOf26 aa aa (by omega) (by omega)) aa (bR (aD aa (aR sizeOf26 aa aa aa (by rw[Nat.blt_eq,List.length_append,bu];omega)) .free aa ?_)))))))))))
    rintro _ _ rfl
    refine ad (ao [12,11,0,1] rfl (ab (kPv (aS aa aa) aa (kPm aa aa (ad ?_)))))
    first
     | exact fun a w st=>⟨i+1,by omega,by omega,st.to ⟨rfl,rfl,rfl,rfl,trivial⟩ (fun hh=>by
      have h:=hh.tail
      rw[jP hin (by(try simp only[beq_iff_eq] at h29);simp only[Dev.crash];rw[if_pos h29];unfold eT;cases hq:s.q (i / 8) with | none=>simp[hq] at h31 | some f=>rfl)] at h
      exact h)⟩
     | exact fun a w st=>⟨i+1,by omega,by omega,st.to ⟨rfl,rfl,rfl,rfl,trivial⟩ (fun hh=>by
      have h:=hh.tail
      rw[jP hin (by(try simp only[beq_eq_false_iff_ne,beq_iff_eq] at h29 h42);simp only[Dev.crash];rw[if_neg h29,if_pos h42])] at h
      exact h)⟩
     | exact fun a w st=>⟨i+1,by omega,by omega,st.to ⟨rfl,rfl,rfl,rfl,trivial⟩ (fun hh=>by
      have h:=hh.tail
      rw[←iJ (by(try simp only[beq_iff_eq] at h29);simp only[Dev.crash];rw[if_pos h29];unfold eT;cases hq:s.q (i / 8) with | some f=>simp[hq] at h31 | none=>rfl)] at h
      exact h)⟩
     | exact fun a w st=>⟨i+1,by omega,by omega,st.to ⟨rfl,rfl,rfl,rfl,trivial⟩ (fun hh=>by
      have h:=hh.tail
      rw[←iJ (by(try simp only[beq_eq_false_iff_ne] at h29 h42);simp only[Dev.crash];rw[if_neg h29,if_neg h42])] at h
      exact h)⟩
   ·try simp only[decide_eq_true_eq,decide_eq_false_iff_not,Bool.not_eq_true',Bool.not_eq_false',Bool.or_eq_true,Bool.and_eq_true,Bool.and_eq_false_iff,Bool.or_eq_false_iff,beq_iff_eq,bne_iff_ne,beq_eq_false_iff_ne,bne_eq_false_iff_eq,ge_iff_le,gt_iff_lt,ne_eq] at h31
    refine ay (ab (kPv (aS aa aa) aa (kPm aa aa (ad ?_))))
    first
     | exact fun a w st=>⟨i+1,by omega,by omega,st.to ⟨rfl,rfl,rfl,rfl,trivial⟩ (fun hh=>by
      have h:=hh.tail
      rw[jP hin (by(try simp only[beq_iff_eq] at h29);simp only[Dev.crash];rw[if_pos h29];unfold eT;cases hq:s.q (i / 8) with | none=>simp[hq] at h31 | some f=>rfl)] at h
      exact h)⟩
     | exact fun a w st=>⟨i+1,by omega,by omega,st.to ⟨rfl,rfl,rfl,rfl,trivial⟩ (fun hh=>by
      have h:=hh.tail
      rw[jP hin (by(try simp only[beq_eq_false_iff_ne,beq_iff_eq] at h29 h42);simp only[Dev.crash];rw[if_neg h29,if_pos h42])] at h
      exact h)⟩
     | exact fun a w st=>⟨i+1,by omega,by omega,st.to ⟨rfl,rfl,rfl,rfl,trivial⟩ (fun hh=>by
      have h:=hh.tail
      rw[←iJ (by(try simp only[beq_iff_eq] at h29);simp only[Dev.crash];rw[if_pos h29];unfold eT;cases hq:s.q (i / 8) with | some f=>simp[hq] at h31 | none=>rfl)] at h
      exact h)⟩
     | exact fun a w st=>⟨i+1,by omega,by omega,st.to ⟨rfl,rfl,rfl,rfl,trivial⟩ (fun hh=>by
      have h:=hh.tail
      rw[←iJ (by(try simp only[beq_eq_false_iff_ne] at h29 h42);simp only[Dev.crash];rw[if_neg h29,if_neg h42])] at h
      exact h)⟩
  ·try simp only[decide_eq_true_eq,decide_eq_false_iff_not,Bool.not_eq_true',Bool.not_eq_false',Bool.or_eq_true,Bool.and_eq_true,Bool.and_eq_false_iff,Bool.or_eq_false_iff,beq_iff_eq,bne_iff_ne,beq_eq_false_iff_ne,bne_eq_false_iff_eq,ge_iff_le,gt_iff_lt,ne_eq] at h29
   refine ac (ab (kPv (an aa aa aa) aa (kPa aa aa (ad (ao [42,4,12,11,0,1] rfl ?_)))))
   refine aW aa (fun h42=> ?_) (fun h42=> ?_)
   ·try simp only[decide_eq_true_eq,decide_eq_false_iff_not,Bool.not_eq_true',Bool.not_eq_false',Bool.or_eq_true,Bool.and_eq_true,Bool.and_eq_false_iff,Bool.or_eq_false_iff,beq_iff_eq,bne_iff_ne,beq_eq_false_iff_ne,bne_eq_false_iff_eq,ge_iff_le,gt_iff_lt,ne_eq] at h42
    refine cD 13 Tryz.mixed (by kernel_rfl) (by kernel_rfl) ?_
    refine kQm aa aa (kQv (ak aa) aa (kQv (aj (m:=_) nY aa aa) aa (kQv (ae isAgg25 aa aa) aa (kQm aa aa (kQm aa aa (kQv (ak aa) aa (kQv (aj (m:=_) gP aa aa) aa (kQv (ae isAgg25 aa aa) aa (kQm aa aa (kQv (bZ runUnderlying25 sizeOf26 aa aa (by omega) (by omega)) aa (kQv (ae (v:=w64 (s.now i)) isAgg26 aa (by rw[Nat.zero_add];exact eG (by omega))) aa ?_)))))))))))
    refine kQv (bZ runUnderlying25 sizeOf26 aa aa (by omega) (by omega)) aa (bR (aD aa (aR sizeOf26 aa aa aa (by rw[Nat.blt_eq,List.length_append,bu];omega)) .free aa ?_))
    rintro _ _ rfl
    refine ad (ao [12,11,0,1] rfl (ab (kPv (aS aa aa) aa (kPm aa aa (ad ?_)))))
    first
     | exact fun a w st=>⟨i+1,by omega,by omega,st.to ⟨rfl,rfl,rfl,rfl,trivial⟩ (fun hh=>by
      have h:=hh.tail
      rw[jP hin (by(try simp only[beq_iff_eq] at h29);simp only[Dev.crash];rw[if_pos h29];unfold eT;cases hq:s.q (i / 8) with | none=>simp[hq] at h31 | some f=>rfl)] at h
      exact h)⟩
     | exact fun a w st=>⟨i+1,by omega,by omega,st.to ⟨rfl,rfl,rfl,rfl,trivial⟩ (fun hh=>by
      have h:=hh.tail
      rw[jP hin (by(try simp only[beq_eq_false_iff_ne,beq_iff_eq] at h29 h42);simp only[Dev.crash];rw[if_neg h29,if_pos h42])] at h
      exact h)⟩
     | exact fun a w st=>⟨i+1,by omega,by omega,st.to ⟨rfl,rfl,rfl,rfl,trivial⟩ (fun hh=>by
      have h:=hh.tail
      rw[←iJ (by(try simp only[beq_iff_eq] at h29);simp only[Dev.crash];rw[if_pos h29];unfold eT;cases hq:s.q (i / 8) with | some f=>simp[hq] at h31 | none=>rfl)] at h
      exact h)⟩
     | exact fun a w st=>⟨i+1,by omega,by omega,st.to ⟨rfl,rfl,rfl,rfl,trivial⟩ (fun hh=>by
      have h:=hh.tail
      rw[←iJ (by(try simp only[beq_eq_false_iff_ne] at h29 h42);simp only[Dev.crash];rw[if_neg h29,if_neg h42])] at h
      exact h)⟩
   ·try simp only[decide_eq_true_eq,decide_eq_false_iff_not,Bool.not_eq_true',Bool.not_eq_false',Bool.or_eq_true,Bool.and_eq_true,Bool.and_eq_false_iff,Bool.or_eq_false_iff,beq_iff_eq,bne_iff_ne,beq_eq_false_iff_ne,bne_eq_false_iff_eq,ge_iff_le,gt_iff_lt,ne_eq] at h42
    refine ay (ab (kPv (aS aa aa) aa (kPm aa aa (ad ?_))))
    first
     | exact fun a w st=>⟨i+1,by omega,by omega,st.to ⟨rfl,rfl,rfl,rfl,trivial⟩ (fun hh=>by
      have h:=hh.tail
      rw[jP hin (by(try simp only[beq_iff_eq] at h29);simp only[Dev.crash];rw[if_pos h29];unfold eT;cases hq:s.q (i / 8) with | none=>simp[hq] at h31 | some f=>rfl)] at h
      exact h)⟩
     | exact fun a w st=>⟨i+1,by omega,by omega,st.to ⟨rfl,rfl,rfl,rfl,trivial⟩ (fun hh=>by
      have h:=hh.tail
      rw[jP hin (by(try simp only[beq_eq_false_iff_ne,beq_iff_eq] at h29 h42);simp only[Dev.crash];rw[if_neg h29,if_pos h42])] at h
      exact h)⟩
     | exact fun a w st=>⟨i+1,by omega,by omega,st.to ⟨rfl,rfl,rfl,rfl,trivial⟩ (fun hh=>by
      have h:=hh.tail
      rw[←iJ (by(try simp only[beq_iff_eq] at h29);simp only[Dev.crash];rw[if_pos h29];unfold eT;cases hq:s.q (i / 8) with | some f=>simp[hq] at h31 | none=>rfl)] at h
      exact h)⟩
     | exact fun a w st=>⟨i+1,by omega,by omega,st.to ⟨rfl,rfl,rfl,rfl,trivial⟩ (fun hh=>by
      have h:=hh.tail
      rw[←iJ (by(try simp only[beq_eq_false_iff_ne] at h29 h42);simp only[Dev.crash];rw[if_neg h29,if_neg h42])] at h
      exact h)⟩
 ·have hin:¬ i<s.n:=by simpa using h13
  obtain rfl:i=s.n:=by omega
  refine bT (ac (ab (kPm aa aa (kPv (ak aa) aa (kPv (aj (m:=_) lX aa aa) aa (kPv (ae isAgg109 aa aa) aa (aD aa (n8 aa runUnderlying109 aa) .free aa ?_)))))))
  rintro _ _ rfl
  refine ad (ao [0] rfl (cD 8 Tryz.mixed (by kernel_rfl) (by kernel_rfl) ?_))
  refine kQm aa aa (kQv (ak aa) aa (kQv (aj (m:=_) gP aa aa) aa (kQv (ae isAgg25 aa aa) aa (kQm aa aa (kQv (ak aa) aa (kQv (aj (m:=_) nY aa aa) aa (kQv (ae isAgg25 aa aa) aa (bR (aC aa (uE (n:=s.n) (cs:=tab s.n (cgo s c s.n)) aa runUnderlying25 sizeOf26 aa aa (SlR.row (by rw[List.drop_zero,List.take_append_of_le_length (by rw[bu];omega),List.take_of_length_le (by rw[bu];omega)]) (by rw[bu])) (by rw[bu];omega) (by rw[bu];omega) (by simp[tab,aV,cgo])) .free aa aa ?_)))))))))
  rintro _ _ ⟨rfl,rfl⟩
  refine ad (ao [] rfl ?_)
  exact cS results16 (fun w hh=>by
   rw[List.take_of_length_le (by rw[bu];omega),mH (by rw[bu,bu]),Du] at hh
   exact⟨_,rfl,dP (s:=s.crash c) (bn:=bn) (bk:=bk) (bq:=bq) (rest:=rest) (l:=[]) ⟨hw.line,hw.pos,hw.le,qL _⟩ hh⟩)
structure Cfg where
 log:Int
 roots:Int
 space:Int
structure bC(c:Cfg):Prop where
 r1:1≤c.roots
 r2:c.roots≤16
 l1:c.roots+2≤c.log
 l2:c.log≤200
 s1:8≤c.space
 s2:c.space≤4096
def gm(n:Int):Int:=(n+7) / 8*8
def Cfg.record(_:Cfg)(i:Int):Int:=16+4*i
def Cfg.active(c:Cfg):Int:=gm (c.record c.log)
def Cfg.root(c:Cfg)(i:Int):Int:=c.active+2+i
def Cfg.frm(c:Cfg)(s:Int):Int:=gm (c.root c.roots)+s*gm c.space
def Cfg.words(c:Cfg):Int:=c.frm 2
abbrev eO(c:Cfg):Value:= .agg #[i64 c.log,i64 c.roots,i64 c.space]
theorem Ee{n:Int}(h:0≤n)(h2:n≤1000000000):IntKind.i64.wrap (n.tdiv 8)=n / 8:=by
 rw[Int.tdiv_eq_ediv_of_nonneg h,gh (by omega)]
theorem dU{n:Int}(h:0≤n):n≤gm n∧gm n≤n+7∧gm n%8=0:=by unfold gm;omega
theorem bC.act{c:Cfg}(h:bC c):16+4*c.log≤c.active∧c.active≤16+4*c.log+7∧c.active%8=0:=by
 have:=h.r1;have:=h.l1
 exact dU (n:=16+4*c.log) (by omega)
theorem q8(B:World)(H:List HP)(n:Int)(h:0≤n)(h2:n≤100000000):
 ∀ w,Holds B H w→Calls Tryz.prog 164 [i64 n].toArray w (bB B H (i64 (gm n))):=by
 refine au func164 aa ntmps164 aa (ac (ab (kPa aa aa (ad (ac (ab (kPm aa aa (kPv (aS aa aa) aa (kPv (rH (c:=n+7) aa aa (by rw[gh (by omega)];omega)) aa (kPv (gp aa aa (by decide) (Ee (by omega) (by omega))) aa (kPv (pR aa aa) aa ?_)))))))))))
 refine kPa aa aa (ad (az ?_))
 exact ax results164 aa (fun w hw=>⟨rfl,hw⟩)
theorem ia(B:World)(H:List HP)(c:Cfg)(i:Int)(h:0≤i)(h2:i≤100000):
 ∀ w,Holds B H w→Calls Tryz.prog 130 [eO c,i64 i].toArray w (bB B H (i64 (c.record i))):=by
 refine au func130 aa ntmps130 aa (ac (ab (aC aa (bx aa) .free aa aa ?_)))
 rintro _ _ ⟨b2,rfl,rfl⟩
 refine kPa aa aa (ad (ac (ab (kPm aa aa (kPv (pR aa aa) aa (kPv (aS aa aa) aa (kPa aa aa (ad (az ?_)))))))))
 exact ax results130 aa (fun w hw=>⟨rfl,hw.tail⟩)
theorem gI(B:World)(H:List HP)(c:Cfg)(hc:bC c):
 ∀ w,Holds B H w→Calls Tryz.prog 117 [eO c].toArray w (bB B H (i64 c.active)):=by
 refine au func117 aa ntmps117 aa ?_
 have hc1:=hc.r1
 have hc2:=hc.r2
 have hc3:=hc.l1
 have hc4:=hc.l2
 have hc5:=hc.s1
 have hc6:=hc.s2
 refine ac (ab (aC aa (bx aa) .free aa aa ?_))
 rintro _ _ ⟨b1,rfl,rfl⟩
 refine kPa aa aa (ad (ac (ab (kPv (am isAgg40 sizeOf40 aa aa) aa ?_))))
 refine kPv (aj (m:=_) jM aa aa) aa (kPv (ae isAgg3 aa aa) aa (aE aa (aA call130 aa) (ia _ _ c _ (by omega) (by omega)) .free aa aa ?_))
 refine aE aa (aA call164 aa) (q8 _ _ _ (by simp only[Cfg.record];omega) (by simp only[Cfg.record];omega)) .free aa aa ?_
 refine kPa aa aa (ad (ao [2] rfl (az ?_)))
 exact ax results117 aa (fun w hw=>⟨rfl,hw.tail⟩)
theorem kN(B:World)(H:List HP)(c:Cfg)(hc:bC c)(i:Int)(h:0≤i)(h2:i≤100000):
 ∀ w,Holds B H w→Calls Tryz.prog 59 [eO c,i64 i].toArray w (bB B H (i64 (c.root i))):=by
 refine au func59 aa ntmps59 aa ?_
 have hc1:=hc.r1
 have hc2:=hc.r2
 have hc3:=hc.l1
 have hc4:=hc.l2
 have hc5:=hc.s1
 have hc6:=hc.s2
 have ha:=hc.act
 refine ac (ab (aC aa (bx aa) .free aa aa ?_))
 rintro _ _ ⟨b2,rfl,rfl⟩
 refine kPa aa aa (ad (ac (ab (kPv (am isAgg40 sizeOf40 aa aa) aa ?_))))
 refine aE aa (aA call117 aa) (gI _ _ c hc) .free aa aa ?_
 refine kPv (aS aa aa) aa (kPm aa aa (kPv (aS aa aa) aa (kPa aa aa (ad (ao [4] rfl (az ?_))))))
 exact ax results59 aa (fun w hw=>⟨rfl,hw.tail⟩)
theorem lh(B:World)(H:List HP)(c:Cfg)(hc:bC c)(i:Int)(h:0≤i)(h2:i≤2):
 ∀ w,Holds B H w→Calls Tryz.prog 140 [eO c,i64 i].toArray w (bB B H (i64 (c.frm i))):=by
 refine au func140 aa ntmps140 aa ?_
 have hc1:=hc.r1
 have hc2:=hc.r2
 have hc3:=hc.l1
 have hc4:=hc.l2
 have hc5:=hc.s1
 have hc6:=hc.s2
 have ha:=hc.act
 have hr:0≤c.root c.roots∧c.root c.roots≤2000:=by simp only[Cfg.root];omega
 have hl:=dU hr.1
 have hs:=dU (n:=c.space) (by omega)
 have hm:0≤i*gm c.space∧i*gm c.space≤2*5000:=⟨Int.mul_nonneg h (by omega),Int.mul_le_mul h2 (by omega) (by omega) (by omega)⟩
 refine ac (ab (aC aa (bx aa) .free aa aa ?_))
 rintro _ _ ⟨b2,rfl,rfl⟩
 refine kPa aa aa (ad (ac (cK Tryz.mixed (by kernel_rfl) (by kernel_rfl) ?_)))
 refine kQv (am isAgg40 sizeOf40 aa aa) aa ?_
 refine kQv (aj (m:=_) fm aa aa) aa (kQv (ae isAgg3 aa aa) aa (bH aa (aA call59 aa) (kN _ _ c hc _ (by omega) (by omega)) .free aa ?_))
 refine bH aa (aA call164 aa) (q8 _ _ _ hr.1 (by have:=hr.2;omega)) .free aa ?_
 refine kQm aa aa (kQv (aj (m:=_) dX aa aa) aa (kQv (ae isAgg3 aa aa) aa (bH aa (aA call164 aa) (q8 _ _ _ (by omega) (by omega)) .free aa ?_)))
 refine kQv (pR aa aa) aa (kQv (aS aa aa) aa (kQa aa aa (bR (ao [4] rfl (az ?_)))))
 exact ax results140 aa (fun w hw=>⟨rfl,hw.tail⟩)
theorem kv(B:World)(H:List HP)(c:Cfg)(hc:bC c):
 ∀ w,Holds B H w→Calls Tryz.prog 108 [eO c].toArray w (bB B H (i64 c.words)):=by
 refine au func108 aa ntmps108 aa (ac (ab (aC aa (bx aa) .free aa aa ?_)))
 rintro _ _ ⟨b1,rfl,rfl⟩
 refine kPa aa aa (ad (ac (ab (kPv (am isAgg40 sizeOf40 aa aa) aa ?_))))
 refine aE aa (aA call140 aa) (lh _ _ c hc _ (by omega) (by omega)) .free aa aa ?_
 refine kPa aa aa (ad (az ?_))
 exact ax results108 aa (fun w hw=>⟨rfl,hw.tail⟩)
theorem wc(B:World)(H:List HP)(c:Cfg)(hc:bC c):
 ∀ w,Holds B H w→Calls Tryz.prog 115 [eO c].toArray w (bB B H (i64 (c.active+1))):=by
 refine au func115 aa ntmps115 aa ?_
 have hc1:=hc.r1
 have hc2:=hc.r2
 have hc3:=hc.l1
 have hc4:=hc.l2
 have hc5:=hc.s1
 have hc6:=hc.s2
 have ha:=hc.act
 refine ac (ab (aC aa (bx aa) .free aa aa ?_))
 rintro _ _ ⟨b1,rfl,rfl⟩
 refine kPa aa aa (ad (ac (ab (kPv (am isAgg40 sizeOf40 aa aa) aa ?_))))
 refine aE aa (aA call117 aa) (gI _ _ c hc) .free aa aa ?_
 refine kPv (aS aa aa) aa (kPa aa aa (ad (az ?_)))
 exact ax results115 aa (fun w hw=>⟨rfl,hw.tail⟩)
instance (c:Cfg):Decidable (bC c):=decidable_of_iff (1≤c.roots∧c.roots≤16∧c.roots+2≤c.log∧c.log≤200∧8≤c.space∧c.space≤4096) ⟨fun ⟨a,b,c,d,e,f⟩=>⟨a,b,c,d,e,f⟩,fun ⟨a,b,c,d,e,f⟩=>⟨a,b,c,d,e,f⟩⟩
end Go.Proofs.YtlcibdhmgclfjaaGreat
