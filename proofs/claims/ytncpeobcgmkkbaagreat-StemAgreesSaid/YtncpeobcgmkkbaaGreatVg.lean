/- The program's StemAgrees returns true for every stem, one and number, valid or not, without an exception and without changing its arguments: a part of the proof. -/
import Derived.Test.YtncpeobcgmkkbaaGreatProg
import Derived.WalkKit
import Derived.Test.YtncpeobcgmkkbaaGreatVc
set_option linter.all false
/- The tables for the run of sane; what stands in memory behind its statements. -/
set_option maxRecDepth 100000
namespace Go.Proofs.YtncpeobcgmkkbaaGreat
noncomputable section
noncomputable def sG:Good:=⟨Tryz.prog,envOf Tryz.prog 205 (List.range 191)⟩
noncomputable def sE (r:Tr (List Value×TypeId)):Env:={ ti:=sG.E.ti,fns:=sG.E.fns,hook:=some 20,rom:=r,sort:=some 104 }
noncomputable def sH (r:Tr (List Value×TypeId)):Good:=⟨Tryz.prog,sE r⟩
noncomputable def sCodes:List Code:=seqs (bodyOf Tryz.prog 20)
def bk0:Nat×LObj:=(1,.cells [.int .i64 (10),.int .i64 (20),.int .i64 (30),.int .i64 (40)] 3)
def bk1:Nat×LObj:=(2,.cells [.int .i64 (10),.int .i64 (20),.int .i64 (31),.int .i64 (40)] 3)
def bk2:Nat×LObj:=(3,.cells [.int .i64 (10),.int .i64 (0),.int .i64 (31),.int .i64 (40)] 3)
def bk3:Nat×LObj:=(4,.cells [.int .i64 (10),.int .i64 (20),.int .i64 (30),.int .i64 (50)] 3)
def bk4:Nat×LObj:=(5,.cells [.int .i64 (1),.slice (some ⟨1,0,none⟩) 4 4,.int .i64 (2),.slice (some ⟨2,0,none⟩) 4 4,.int .i64 (3),.slice (some ⟨3,0,none⟩) 4 4,.int .i64 (4),.slice (some ⟨4,0,none⟩) 4 4] 44)
def bk5:Nat×LObj:=(6,.cells [.slice (some ⟨5,0,none⟩) 4 4,.int .i64 (2),.int .i64 (9),.int .i64 (1),.int .i64 (4),.slice none 0 0] 27)
def bk6:Nat×LObj:=(590,.cells [.int .i64 (0),.int .i64 (1),.int .i64 (2),.int .i64 (1)] 3)
def bk7:Nat×LObj:=(973,.cells [.int .i64 (1),.int .i64 (2),.int .i64 (4)] 3)
def bk8:Nat×LObj:=(1321,.cells [.int .i64 (10),.int .i64 (20),.int .i64 (-1),.int .i64 (-1)] 3)
def bk9:Nat×LObj:=(1388,.cells [.int .i64 (2),.int .i64 (2),.int .i64 (30),.int .i64 (31),.int .i64 (3),.int .i64 (1),.int .i64 (20),.int .i64 (0),.int .i64 (4),.int .i64 (3),.int .i64 (40),.int .i64 (50)] 91)
def bk10:Nat×LObj:=(2654,.cells [.int .i64 (2),.int .i64 (4)] 3)
def bk11:Nat×LObj:=(3550,.cells [.int .i64 (1),.int .i64 (1),.int .i64 (2),.int .i64 (1),.int .i64 (4),.int .i64 (2),.int .i64 (7),.int .i64 (3),.int .i64 (8),.int .i64 (4),.int .i64 (11),.int .i64 (1),.int .i64 (15),.int .i64 (99995)] 95)
def bk12:Nat×LObj:=(6,.cells [.slice (some ⟨5,0,none⟩) 4 4,.int .i64 (2),.int .i64 (9),.int .i64 (1),.int .i64 (4),.slice (some ⟨3551,0,none⟩) 1 1] 27)
def bk13:Nat×LObj:=(3551,.cells [.int .i64 (2),.int .i64 (3)] 57)
def lt0:List (Nat×Value):=[(0,.bool false)]
def lh0:List (Nat×LObj):=[]
def lt1:List (Nat×Value):=[(0,.bool false),(1,.pointer (some ⟨6,0,none⟩))]
def lh1:List (Nat×LObj):=[bk0,bk1,bk2,bk3,bk4,bk5]
def lt2:List (Nat×Value):=[(0,.bool false),(1,.pointer (some ⟨6,0,none⟩)),(2,.int .i64 (7)),(3,.int .i64 (0))]
def lh2:List (Nat×LObj):=[bk0,bk1,bk2,bk3,bk4,bk5]
def lt3:List (Nat×Value):=[(0,.bool false),(1,.pointer (some ⟨6,0,none⟩)),(2,.int .i64 (7)),(3,.int .i64 (0)),(4,.slice (some ⟨590,0,some 0⟩) 4 4),(5,.int .i64 (0))]
def lh3:List (Nat×LObj):=[bk0,bk1,bk2,bk3,bk4,bk5,bk6]
def lt4:List (Nat×Value):=[(0,.bool false),(1,.pointer (some ⟨6,0,none⟩)),(2,.int .i64 (7)),(3,.int .i64 (0)),(4,.slice (some ⟨590,0,some 0⟩) 4 4),(5,.int .i64 (0)),(6,.int .i64 (8)),(7,.int .i64 (0))]
def lh4:List (Nat×LObj):=[bk0,bk1,bk2,bk3,bk4,bk5,bk6]
def lt5:List (Nat×Value):=[(0,.bool false),(1,.pointer (some ⟨6,0,none⟩)),(2,.int .i64 (7)),(3,.int .i64 (0)),(4,.slice (some ⟨590,0,some 0⟩) 4 4),(5,.int .i64 (0)),(6,.int .i64 (8)),(7,.int .i64 (0)),(8,.slice (some ⟨973,0,some 0⟩) 3 3),(9,.int .i64 (0))]
def lh5:List (Nat×LObj):=[bk0,bk1,bk2,bk3,bk4,bk5,bk6,bk7]
def lt6:List (Nat×Value):=[(0,.bool false),(1,.pointer (some ⟨6,0,none⟩)),(2,.int .i64 (7)),(3,.int .i64 (0)),(4,.slice (some ⟨590,0,some 0⟩) 4 4),(5,.int .i64 (0)),(6,.int .i64 (8)),(7,.int .i64 (0)),(8,.slice (some ⟨973,0,some 0⟩) 3 3),(9,.int .i64 (0)),(10,.slice (some ⟨1321,0,some 0⟩) 4 4),(11,.int .i64 (0))]
def lh6:List (Nat×LObj):=[bk0,bk1,bk2,bk3,bk4,bk5,bk6,bk7,bk8]
def lt7:List (Nat×Value):=[(0,.bool false),(1,.pointer (some ⟨6,0,none⟩)),(2,.int .i64 (7)),(3,.int .i64 (0)),(4,.slice (some ⟨590,0,some 0⟩) 4 4),(5,.int .i64 (0)),(6,.int .i64 (8)),(7,.int .i64 (0)),(8,.slice (some ⟨973,0,some 0⟩) 3 3),(9,.int .i64 (0)),(10,.slice (some ⟨1321,0,some 0⟩) 4 4),(11,.int .i64 (0)),(12,.slice (some ⟨1388,0,some 0⟩) 3 3),(13,.int .i64 (0))]
def lh7:List (Nat×LObj):=[bk0,bk1,bk2,bk3,bk4,bk5,bk6,bk7,bk8,bk9]
def lt8:List (Nat×Value):=[(0,.bool false),(1,.pointer (some ⟨6,0,none⟩)),(2,.int .i64 (7)),(3,.int .i64 (0)),(4,.slice (some ⟨590,0,some 0⟩) 4 4),(5,.int .i64 (0)),(6,.int .i64 (8)),(7,.int .i64 (0)),(8,.slice (some ⟨973,0,some 0⟩) 3 3),(9,.int .i64 (0)),(10,.slice (some ⟨1321,0,some 0⟩) 4 4),(11,.int .i64 (0)),(12,.slice (some ⟨1388,0,some 0⟩) 3 3),(13,.int .i64 (0)),(14,.slice (some ⟨2654,0,some 0⟩) 2 2),(15,.int .i64 (0))]
def lh8:List (Nat×LObj):=[bk0,bk1,bk2,bk3,bk4,bk5,bk6,bk7,bk8,bk9,bk10]
def lt9:List (Nat×Value):=[(0,.bool false),(1,.pointer (some ⟨6,0,none⟩)),(2,.int .i64 (7)),(3,.int .i64 (0)),(4,.slice (some ⟨590,0,some 0⟩) 4 4),(5,.int .i64 (0)),(6,.int .i64 (8)),(7,.int .i64 (0)),(8,.slice (some ⟨973,0,some 0⟩) 3 3),(9,.int .i64 (0)),(10,.slice (some ⟨1321,0,some 0⟩) 4 4),(11,.int .i64 (0)),(12,.slice (some ⟨1388,0,some 0⟩) 3 3),(13,.int .i64 (0)),(14,.slice (some ⟨2654,0,some 0⟩) 2 2),(15,.int .i64 (0)),(16,.int .i64 (1)),(17,.int .i64 (0))]
def lh9:List (Nat×LObj):=[bk0,bk1,bk2,bk3,bk4,bk5,bk6,bk7,bk8,bk9,bk10]
def lt10:List (Nat×Value):=[(0,.bool false),(1,.pointer (some ⟨6,0,none⟩)),(2,.int .i64 (7)),(3,.int .i64 (0)),(4,.slice (some ⟨590,0,some 0⟩) 4 4),(5,.int .i64 (0)),(6,.int .i64 (8)),(7,.int .i64 (0)),(8,.slice (some ⟨973,0,some 0⟩) 3 3),(9,.int .i64 (0)),(10,.slice (some ⟨1321,0,some 0⟩) 4 4),(11,.int .i64 (0)),(12,.slice (some ⟨1388,0,some 0⟩) 3 3),(13,.int .i64 (0)),(14,.slice (some ⟨2654,0,some 0⟩) 2 2),(15,.int .i64 (0)),(16,.int .i64 (1)),(17,.int .i64 (0)),(18,.int .i64 (2)),(19,.int .i64 (0))]
def lh10:List (Nat×LObj):=[bk0,bk1,bk2,bk3,bk4,bk5,bk6,bk7,bk8,bk9,bk10]
def lt11:List (Nat×Value):=[(0,.bool false),(1,.pointer (some ⟨6,0,none⟩)),(2,.int .i64 (7)),(3,.int .i64 (0)),(4,.slice (some ⟨590,0,some 0⟩) 4 4),(5,.int .i64 (0)),(6,.int .i64 (8)),(7,.int .i64 (0)),(8,.slice (some ⟨973,0,some 0⟩) 3 3),(9,.int .i64 (0)),(10,.slice (some ⟨1321,0,some 0⟩) 4 4),(11,.int .i64 (0)),(12,.slice (some ⟨1388,0,some 0⟩) 3 3),(13,.int .i64 (0)),(14,.slice (some ⟨2654,0,some 0⟩) 2 2),(15,.int .i64 (0)),(16,.int .i64 (1)),(17,.int .i64 (0)),(18,.int .i64 (2)),(19,.int .i64 (0)),(21,.int .i64 (3))]
def lh11:List (Nat×LObj):=[bk0,bk1,bk2,bk3,bk4,bk5,bk6,bk7,bk8,bk9,bk10]
def lt12:List (Nat×Value):=[(0,.bool false),(1,.pointer (some ⟨6,0,none⟩)),(2,.int .i64 (7)),(3,.int .i64 (0)),(4,.slice (some ⟨590,0,some 0⟩) 4 4),(5,.int .i64 (0)),(6,.int .i64 (8)),(7,.int .i64 (0)),(8,.slice (some ⟨973,0,some 0⟩) 3 3),(9,.int .i64 (0)),(10,.slice (some ⟨1321,0,some 0⟩) 4 4),(11,.int .i64 (0)),(12,.slice (some ⟨1388,0,some 0⟩) 3 3),(13,.int .i64 (0)),(14,.slice (some ⟨2654,0,some 0⟩) 2 2),(15,.int .i64 (0)),(16,.int .i64 (1)),(17,.int .i64 (0)),(18,.int .i64 (2)),(19,.int .i64 (0)),(21,.int .i64 (3)),(22,.slice (some ⟨3550,0,none⟩) 7 7)]
def lh12:List (Nat×LObj):=[bk0,bk1,bk2,bk3,bk4,bk5,bk6,bk7,bk8,bk9,bk10,bk11]
def lt13:List (Nat×Value):=[(0,.bool false),(1,.pointer (some ⟨6,0,none⟩)),(2,.int .i64 (7)),(3,.int .i64 (0)),(4,.slice (some ⟨590,0,some 0⟩) 4 4),(5,.int .i64 (0)),(6,.int .i64 (8)),(7,.int .i64 (0)),(8,.slice (some ⟨973,0,some 0⟩) 3 3),(9,.int .i64 (0)),(10,.slice (some ⟨1321,0,some 0⟩) 4 4),(11,.int .i64 (0)),(12,.slice (some ⟨1388,0,some 0⟩) 3 3),(13,.int .i64 (0)),(14,.slice (some ⟨2654,0,some 0⟩) 2 2),(15,.int .i64 (0)),(16,.int .i64 (1)),(17,.int .i64 (0)),(18,.int .i64 (2)),(19,.int .i64 (0)),(21,.int .i64 (3)),(22,.slice (some ⟨3550,0,none⟩) 7 7)]
def lh13:List (Nat×LObj):=[bk0,bk1,bk2,bk3,bk4,bk12,bk6,bk7,bk8,bk9,bk10,bk11,bk13]
def lt14:List (Nat×Value):=[(0,.bool false),(2,.int .i64 (7)),(3,.int .i64 (0)),(4,.slice (some ⟨590,0,some 0⟩) 4 4),(5,.int .i64 (0)),(6,.int .i64 (8)),(7,.int .i64 (0)),(8,.slice (some ⟨973,0,some 0⟩) 3 3),(9,.int .i64 (0)),(10,.slice (some ⟨1321,0,some 0⟩) 4 4),(11,.int .i64 (0)),(12,.slice (some ⟨1388,0,some 0⟩) 3 3),(13,.int .i64 (0)),(14,.slice (some ⟨2654,0,some 0⟩) 2 2),(15,.int .i64 (0)),(16,.int .i64 (1)),(17,.int .i64 (0)),(18,.int .i64 (2)),(19,.int .i64 (0)),(21,.int .i64 (3)),(22,.slice (some ⟨3550,0,none⟩) 7 7),(23,.int .i64 (8)),(24,.int .i64 (0))]
def lh14:List (Nat×LObj):=[bk6,bk7,bk8,bk9,bk10,bk11]
def lt15:List (Nat×Value):=[(0,.bool false),(2,.int .i64 (7)),(4,.slice (some ⟨590,0,some 0⟩) 4 4),(6,.int .i64 (8)),(8,.slice (some ⟨973,0,some 0⟩) 3 3),(10,.slice (some ⟨1321,0,some 0⟩) 4 4),(12,.slice (some ⟨1388,0,some 0⟩) 3 3),(14,.slice (some ⟨2654,0,some 0⟩) 2 2),(16,.int .i64 (1)),(18,.int .i64 (2)),(22,.slice (some ⟨3550,0,none⟩) 7 7),(23,.int .i64 (8)),(25,.bool true)]
def lh15:List (Nat×LObj):=[bk6,bk7,bk8,bk9,bk10,bk11]
def lt16:List (Nat×Value):=[(0,.bool true)]
def lh16:List (Nat×LObj):=[]
end
theorem sG_mixed:Tryz.prog.follows .mixedOrders=true:=by kernel_rfl
theorem sG_fns:(pick Tryz.prog (List.range 191)).all fnOk=true:=by kernel_rfl
theorem sG_ok:GoodOK sG:=good_env sG_mixed sG_fns
theorem s_const:constFn Tryz.prog 20 0 202=true:=by kernel_rfl
end Go.Proofs.YtncpeobcgmkkbaaGreat
