/- The program's LeafNth returns true for all numbers that describe a book and all lists of Ids, without an exception and without changing its arguments: a part of the proof. -/
import Derived.Test.YtdpipdniklognaaGreatProg
import Derived.WalkKit
import Derived.Test.YtdpipdniklognaaGreatVc
import Derived.Test.YtdpipdniklognaaGreatVm
set_option linter.all false
/- The tables of this program; with sane known, or not. -/
set_option maxRecDepth 100000
namespace Go.Proofs.YtdpipdniklognaaGreat
section
noncomputable section
def sB:Env:=zpG Tryz.prog 213 (List.range 200)
def zqu (f:Nat) (args:List Value) (S:St):Option Value:=bf (Nat.beq f 85) (zqd args S) none
def zqv (f:Nat) (args:List Value) (S:St):Option (Nat×List Value×TypeId):=bf (Nat.beq f 63) (atF args S) none
def sG:Good:=⟨Tryz.prog,{ ti:=sB.ti,fns:=sB.fns,orcs:=[85,63],orc:=zqu,lks:=[63],lkf:=zqv }⟩
abbrev Rm:=Tr (List Value×TypeId)×Bool
def sE (r:Rm):Env:={ ti:=sG.E.ti,fns:=sG.E.fns,hook:=bif r.2 then some 26 else none,rom:=r.1,sort:=some 73,ins:=some (108,74),orcs:=[85,63],orc:=zqu,lks:=[63],lkf:=zqv }
def sH (r:Rm):Good:=⟨Tryz.prog,sE r⟩
end
theorem zki:Tryz.prog.follows .mixedOrders=true:=by kernel_rfl
theorem zp9:(pick Tryz.prog (List.range 200)).all zqX=true:=by kernel_rfl
theorem sB_ok:Yj ⟨Tryz.prog,sB⟩:=zl4 zki zp9
theorem zpv {a b:Nat} (h:Nat.beq a b=true):a=b:=Nat.eq_of_beq_eq_true h
theorem zp7 {G : Good} (hP : G.P = Tryz.prog) (hE : G.E.orc = zqu) : ∀ f args S v, z2z G.E f = true → G.E.orc f args S = some v → (∃ fn, G.P.funcs[f]? = some fn ∧ (fn.name == "runtime.NumGoroutine") = false ∧ fn.body.isSome = true) ∧ litV v = true ∧
  ∀ j (args':Array Value) w,Sim G j S w→Yh j args args'.toList→Calls G.P f args' w fun e w'=>e = .returned v∧SameIo w w'∧w.heap.size≤w'.heap.size∧∀ c,c<w.heap.size→w'.heap[c]? = w.heap[c]? :=by
 intro f args S v _ h
 rw [hE] at h
 obtain ⟨h1,h2⟩:=ze (show gd (Nat.beq f 85) (zqd args S)=some v from h)
 have:=zpv h1;subst this
 exact ⟨by rw [hP];exact ⟨Tryz.f85,by kernel_rfl,by kernel_rfl,by kernel_rfl⟩,znJ hP h2⟩
theorem zlM:(sB.ti.get 58).map (·.size)=some 2:=by kernel_rfl
theorem zp8 {G : Good} (hP : G.P = Tryz.prog) (hE : G.E.lkf = zqv) (hT : G.E.ti = sB.ti) : ∀ f args S q, zkW G.E f = true → G.E.lkf f args S = some q → (∃ fn, G.P.funcs[f]? = some fn ∧ (fn.name == "runtime.NumGoroutine") = false ∧ fn.body.isSome = true) ∧ (∀ v ∈ q.2.1, litV v = true) ∧
  ∀ j (args':Array Value) w,Sim G j S w→Yh j args args'.toList→Calls G.P f args' w fun ex w'=>SameIo w w'∧w.heap.size≤w'.heap.size∧(∀ c,c<w.heap.size→w'.heap[c]? = w.heap[c]?) ∧
   ((q.1=0∧ex = .returned (.slice none 0 0))∨(q.1≠0∧∃ e b g row,G.E.ti.get q.2.2=some e∧q.2.1.length=q.1*e.size∧w.heap.size≤b∧ex = .returned (.slice (some ⟨b,0,none⟩) q.1 g)∧q.1≤g∧w'.heap[b]? = some (.cells row q.2.2 (0,0))∧g*e.size≤row.size∧∀ (i:Nat) (v:Value),q.2.1[i]? = some v→row[i]? = some v)):=by
 intro f args S q _ h
 rw [hE] at h
 obtain ⟨h1,h2⟩:=ze (show gd (Nat.beq f 63) (atF args S)=some q from h)
 have:=zpv h1;subst this
 refine ⟨by rw [hP];exact ⟨Tryz.f63,by kernel_rfl,by kernel_rfl,by kernel_rfl⟩,zq1 hP ?_ h2⟩
 rw [hT]
 cases he:sB.ti.get 58 with
 | none=>have:=zlM;rw [he] at this;cases this
 | some e =>
  refine ⟨e,rfl,?_⟩
  have:=zlM
  rw [he] at this
  exact Option.some.inj this
theorem sG_ok:Yj sG:=⟨sB_ok.mixed,sB_ok.ti,(fun h hh=>by cases hh),(fun h hh=>by cases hh),(fun h t hh=>by cases hh),zp7 rfl rfl,zp8 rfl rfl rfl,sB_ok.fns⟩
theorem zD {r:Rm} {f:Nat} (h:(!Nat.beq f 26 && !Nat.beq f 73 && !Nat.beq f 108 && !Nat.beq f 85 && !Nat.beq f 63)=true):z6j (sE r) f=true:=by
 obtain ⟨t,b⟩:=r
 simp only [Bool.and_eq_true,Bool.not_eq_true'] at h
 have hs:z0A (sE (t,b)) f=false:=by
  show (Nat.beq f 73||Nat.beq f 108)=false
  simp only [h,Bool.or_false]
 have ho:z2z (sE (t,b)) f=false:=by
  show (Nat.beq f 85||(Nat.beq f 63||false))=false
  simp only [h,Bool.or_false]
 cases b with
 | true=>show (!Nat.beq f 26&&(!z0A (sE (t,true)) f && !z2z (sE (t,true)) f))=true;rw [hs,ho];simp only [h,Bool.not_false,Bool.and_true]
 | false=>show (true&&(!z0A (sE (t,false)) f && !z2z (sE (t,false)) f))=true;rw [hs,ho];rfl
theorem zrV {r:Rm} {f:Nat} (h:(!Nat.beq f 26)=true):Option.rec true (fun h=>!Nat.beq f h) (sE r).hook=true:=by
 obtain ⟨t,b⟩:=r
 cases b with
 | true=>exact h
 | false=>rfl
end
end Go.Proofs.YtdpipdniklognaaGreat
