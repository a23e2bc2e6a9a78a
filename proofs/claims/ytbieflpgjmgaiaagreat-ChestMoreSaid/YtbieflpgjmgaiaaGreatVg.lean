/- The program's ChestMore returns true for all numbers without an exception and without changing its arguments: a part of the proof. -/
import Derived.Test.YtbieflpgjmgaiaaGreatProg
import Derived.WalkKit
import Derived.Test.YtbieflpgjmgaiaaGreatVc
set_option linter.all false
/- The tables of this program; with sane known, or not. -/
set_option maxRecDepth 100000
namespace Go.Proofs.YtbieflpgjmgaiaaGreat
noncomputable section
def sG:Good:=⟨Tryz.prog,envOf Tryz.prog 181 (List.range 178)⟩
abbrev Rm:=Tr (List Value×TypeId)×Bool
def sE (r:Rm):Env:={ ti:=sG.E.ti,fns:=sG.E.fns,hook:=bif r.2 then some 10 else none,rom:=r.1,sort:=some 82,ins:=some (93,45) }
def sH (r:Rm):Good:=⟨Tryz.prog,sE r⟩
end
theorem sG_mixed:Tryz.prog.follows .mixedOrders=true:=by kernel_rfl
theorem sG_fns:(pick Tryz.prog (List.range 178)).all fnOk=true:=by kernel_rfl
theorem sG_ok:GoodOK sG:=good_env sG_mixed sG_fns
theorem wk_ok {r:Rm} {f:Nat} (h:(!Nat.beq f 10 && !Nat.beq f 82 && !Nat.beq f 93)=true):walkedB (sE r) f=true:=by
 obtain ⟨t,b⟩:=r
 simp only [Bool.and_eq_true,Bool.not_eq_true'] at h
 have hs:isSortL (sE (t,b)) f=false:=by
  show (Nat.beq f 82||Nat.beq f 93)=false
  simp only [h,Bool.or_false]
 cases b with
 | true=>show (!Nat.beq f 10&&(!isSortL (sE (t,true)) f&&true))=true;rw [hs];simp only [h,Bool.not_false,Bool.and_true]
 | false=>show (true&&(!isSortL (sE (t,false)) f&&true))=true;rw [hs];rfl
theorem hk_ok {r:Rm} {f:Nat} (h:(!Nat.beq f 10)=true):Option.rec true (fun h=>!Nat.beq f h) (sE r).hook=true:=by
 obtain ⟨t,b⟩:=r
 cases b with
 | true=>exact h
 | false=>rfl
end Go.Proofs.YtbieflpgjmgaiaaGreat
