/- The program's LeafLess returns true for all numbers that describe a book, all that is not known any more, and all numbers of an order, without an exception and without changing its arguments: a part of the proof. -/
import Derived.Test.YtdpipdniklognaaGreatProg
import Derived.WalkKit
import Derived.Test.YtdpipdniklognaaGreatVc
import Derived.Test.YtdpipdniklognaaGreatVm
set_option linter.all false
/- The tables of this program; with sane known, or not. -/
set_option maxRecDepth 100000
namespace Go.Proofs.YtdpipdniklognaaGreat
section
noncomputable section
def sB:Env:=zpw Tryz.prog 213 (List.range 200)
def zqo (f:Nat) (args:List Value) (S:St):Option Value:=bf (Nat.beq f 85) (zq8 args S) none
def zqp (f:Nat) (args:List Value) (S:St):Option (Nat×List Value×TypeId):=bf (Nat.beq f 63) (atF args S) none
def sG:Good:=⟨Tryz.prog,{ ti:=sB.ti,fns:=sB.fns,orcs:=[85,63],orc:=zqo,lks:=[63],lkf:=zqp }⟩
abbrev Rm:=Tr (List Value×TypeId)×Bool
def sE (r:Rm):Env:={ ti:=sG.E.ti,fns:=sG.E.fns,hook:=bif r.2 then some 26 else none,rom:=r.1,sort:=some 73,ins:=some (108,74),orcs:=[85,63],orc:=zqo,lks:=[63],lkf:=zqp }
def sH (r:Rm):Good:=⟨Tryz.prog,sE r⟩
end
theorem zkg:Tryz.prog.follows .mixedOrders=true:=by kernel_rfl
theorem zp0:(pick Tryz.prog (List.range 200)).all zqP=true:=by kernel_rfl
theorem sB_ok:Yl ⟨Tryz.prog,sB⟩:=zl1 zkg zp0
theorem zpm {a b:Nat} (h:Nat.beq a b=true):a=b:=Nat.eq_of_beq_eq_true h
theorem zoY {G : Good} (hP : G.P = Tryz.prog) (hE : G.E.orc = zqo) : ∀ f args S v, z2u G.E f = true → G.E.orc f args S = some v → (∃ fn, G.P.funcs[f]? = some fn ∧ (fn.name == "runtime.NumGoroutine") = false ∧ fn.body.isSome = true) ∧ zgE v = true ∧
  ∀ j (args':Array Value) w,Sim G j S w→Yg j args args'.toList→Calls G.P f args' w fun e w'=>e = .returned v∧SameIo w w'∧w.heap.size≤w'.heap.size∧∀ c,c<w.heap.size→w'.heap[c]? = w.heap[c]? :=by
 intro f args S v _ h
 rw [hE] at h
 obtain ⟨h1,h2⟩:=ze (show gd (Nat.beq f 85) (zq8 args S)=some v from h)
 have:=zpm h1;subst this
 exact ⟨by rw [hP];exact ⟨Tryz.f85,by kernel_rfl,by kernel_rfl,by kernel_rfl⟩,znB hP h2⟩
theorem zlK:(sB.ti.get 58).map (·.size)=some 2:=by kernel_rfl
theorem zoZ {G : Good} (hP : G.P = Tryz.prog) (hE : G.E.lkf = zqp) (hT : G.E.ti = sB.ti) : ∀ f args S q, zkT G.E f = true → G.E.lkf f args S = some q → (∃ fn, G.P.funcs[f]? = some fn ∧ (fn.name == "runtime.NumGoroutine") = false ∧ fn.body.isSome = true) ∧ (∀ v ∈ q.2.1, zgE v = true) ∧
  ∀ j (args':Array Value) w,Sim G j S w→Yg j args args'.toList→Calls G.P f args' w fun ex w'=>SameIo w w'∧w.heap.size≤w'.heap.size∧(∀ c,c<w.heap.size→w'.heap[c]? = w.heap[c]?) ∧
   ((q.1=0∧ex = .returned (.slice none 0 0))∨(q.1≠0∧∃ e b g row,G.E.ti.get q.2.2=some e∧q.2.1.length=q.1*e.size∧w.heap.size≤b∧ex = .returned (.slice (some ⟨b,0,none⟩) q.1 g)∧q.1≤g∧w'.heap[b]? = some (.cells row q.2.2 (0,0))∧g*e.size≤row.size∧∀ (i:Nat) (v:Value),q.2.1[i]? = some v→row[i]? = some v)):=by
 intro f args S q _ h
 rw [hE] at h
 obtain ⟨h1,h2⟩:=ze (show gd (Nat.beq f 63) (atF args S)=some q from h)
 have:=zpm h1;subst this
 refine ⟨by rw [hP];exact ⟨Tryz.f63,by kernel_rfl,by kernel_rfl,by kernel_rfl⟩,zpW hP ?_ h2⟩
 rw [hT]
 cases he:sB.ti.get 58 with
 | none=>have:=zlK;rw [he] at this;cases this
 | some e =>
  refine ⟨e,rfl,?_⟩
  have:=zlK
  rw [he] at this
  exact Option.some.inj this
theorem sG_ok:Yl sG:=⟨sB_ok.mixed,sB_ok.ti,(fun h hh=>by cases hh),(fun h hh=>by cases hh),(fun h t hh=>by cases hh),zoY rfl rfl,zoZ rfl rfl rfl,sB_ok.fns⟩
theorem zK {r:Rm} {f:Nat} (h:(!Nat.beq f 26 && !Nat.beq f 73 && !Nat.beq f 108 && !Nat.beq f 85 && !Nat.beq f 63)=true):z6k (sE r) f=true:=by
 obtain ⟨t,b⟩:=r
 simp only [Bool.and_eq_true,Bool.not_eq_true'] at h
 have hs:z0z (sE (t,b)) f=false:=by
  show (Nat.beq f 73||Nat.beq f 108)=false
  simp only [h,Bool.or_false]
 have ho:z2u (sE (t,b)) f=false:=by
  show (Nat.beq f 85||(Nat.beq f 63||false))=false
  simp only [h,Bool.or_false]
 cases b with
 | true=>show (!Nat.beq f 26&&(!z0z (sE (t,true)) f && !z2u (sE (t,true)) f))=true;rw [hs,ho];simp only [h,Bool.not_false,Bool.and_true]
 | false=>show (true&&(!z0z (sE (t,false)) f && !z2u (sE (t,false)) f))=true;rw [hs,ho];rfl
theorem zrO {r:Rm} {f:Nat} (h:(!Nat.beq f 26)=true):Option.rec true (fun h=>!Nat.beq f h) (sE r).hook=true:=by
 obtain ⟨t,b⟩:=r
 cases b with
 | true=>exact h
 | false=>rfl
end
end Go.Proofs.YtdpipdniklognaaGreat
