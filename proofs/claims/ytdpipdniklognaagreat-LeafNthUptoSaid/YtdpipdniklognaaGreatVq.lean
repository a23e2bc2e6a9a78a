/- The program's LeafNth returns true for all numbers that describe a book and all lists of Ids, without an exception and without changing its arguments: a part of the proof. -/
import Derived.Test.YtdpipdniklognaaGreatVp
import Derived.Test.YtdpipdniklognaaGreatVc
set_option linter.all false
/- What stands in memory behind the statements of sane. -/
set_option maxRecDepth 100000
namespace Go.Proofs.YtdpipdniklognaaGreat
section
noncomputable section
noncomputable def sCodes:List Code:=zlL (zfs Tryz.prog 26)
def bk0:Nat×Yg:=(1,.cells [.int .i64 (1),.int .i64 (3),.int .i64 (10),.int .i64 (20),.int .i64 (1),.int .i64 (0),.int .i64 (2),.int .i64 (3),.int .i64 (20),.int .i64 (30),.int .i64 (3),.int .i64 (0),.int .i64 (4),.int .i64 (3),.int .i64 (30),.int .i64 (0),.int .i64 (2),.int .i64 (0),.int .i64 (7),.int .i64 (3),.int .i64 (0),.int .i64 (0),.int .i64 (0),.int .i64 (2)] 74)
def bk1:Nat×Yg:=(2,.cells [.slice (some ⟨1,0,none⟩) 4 4,.slice none 0 0] 25)
def bk2:Nat×Yg:=(4,.cells [.int .i64 (1),.int .i64 (3),.int .i64 (10),.int .i64 (20),.int .i64 (1),.int .i64 (0),.int .i64 (2),.int .i64 (3),.int .i64 (20),.int .i64 (30),.int .i64 (3),.int .i64 (0),.int .i64 (4),.int .i64 (3),.int .i64 (30),.int .i64 (0),.int .i64 (2),.int .i64 (0),.int .i64 (7),.int .i64 (3),.int .i64 (0),.int .i64 (0),.int .i64 (0),.int .i64 (2)] 74)
def bk3:Nat×Yg:=(5,.cells [.slice (some ⟨4,0,none⟩) 4 4,.slice none 0 0] 25)
def bk4:Nat×Yg:=(4,.cells [.int .i64 (1),.int .i64 (3),.int .i64 (10),.int .i64 (20),.int .i64 (5),.int .i64 (0),.int .i64 (2),.int .i64 (3),.int .i64 (20),.int .i64 (30),.int .i64 (3),.int .i64 (0),.int .i64 (4),.int .i64 (3),.int .i64 (30),.int .i64 (0),.int .i64 (2),.int .i64 (0),.int .i64 (7),.int .i64 (3),.int .i64 (0),.int .i64 (0),.int .i64 (0),.int .i64 (2)] 74)
def bk5:Nat×Yg:=(4,.cells [.int .i64 (1),.int .i64 (3),.int .i64 (10),.int .i64 (20),.int .i64 (5),.int .i64 (0),.int .i64 (2),.int .i64 (3),.int .i64 (20),.int .i64 (30),.int .i64 (3),.int .i64 (0),.int .i64 (4),.int .i64 (3),.int .i64 (30),.int .i64 (0),.int .i64 (6),.int .i64 (0),.int .i64 (7),.int .i64 (3),.int .i64 (0),.int .i64 (0),.int .i64 (0),.int .i64 (2)] 74)
def bk6:Nat×Yg:=(2179,.cells [.int .i64 (1),.int .i64 (2),.int .i64 (4),.int .i64 (7)] 3)
def bk7:Nat×Yg:=(4140,.cells [.int .i64 (1),.int .i64 (2)] 58)
def bk8:Nat×Yg:=(6117,.cells [.int .i64 (0),.int .i64 (3)] 32)
def bk9:Nat×Yg:=(9779,.cells [.int .i64 (1),.int .i64 (7),.int .i64 (0)] 3)
def zpS:Nat×Yg:=(9781,.cells [.int .i64 (4),.int .i64 (7),.int .i64 (0)] 3)
def zqj:Nat×Yg:=(12203,.cells [.int .i64 (0),.int .i64 (1),.int .i64 (2)] 3)
def zr4:Nat×Yg:=(14573,.cells [.int .i64 (2),.int .i64 (4)] 58)
def lt0:List (Nat×Value):=[(0,.bool false)]
def lh0:List (Nat×Yg):=[]
def lt1:List (Nat×Value):=[(0,.bool false),(1,.pointer (some ⟨2,0,none⟩))]
def lh1:List (Nat×Yg):=[bk0,bk1]
def lt2:List (Nat×Value):=[(0,.bool false),(1,.pointer (some ⟨2,0,none⟩)),(2,.pointer (some ⟨5,0,none⟩))]
def lh2:List (Nat×Yg):=[bk0,bk1,bk2,bk3]
def lt3:List (Nat×Value):=[(0,.bool false),(1,.pointer (some ⟨2,0,none⟩)),(2,.pointer (some ⟨5,0,none⟩))]
def lh3:List (Nat×Yg):=[bk0,bk1,bk4,bk3]
def lt4:List (Nat×Value):=[(0,.bool false),(1,.pointer (some ⟨2,0,none⟩)),(2,.pointer (some ⟨5,0,none⟩))]
def lh4:List (Nat×Yg):=[bk0,bk1,bk5,bk3]
def lt5:List (Nat×Value):=[(0,.bool false),(1,.pointer (some ⟨2,0,none⟩)),(2,.pointer (some ⟨5,0,none⟩)),(3,.int .i64 (2)),(4,.int .i64 (0))]
def lh5:List (Nat×Yg):=[bk0,bk1,bk5,bk3]
def lt6:List (Nat×Value):=[(0,.bool false),(1,.pointer (some ⟨2,0,none⟩)),(2,.pointer (some ⟨5,0,none⟩)),(3,.int .i64 (2)),(4,.int .i64 (0)),(5,.int .i64 (3)),(6,.int .i64 (0))]
def lh6:List (Nat×Yg):=[bk0,bk1,bk5,bk3]
def lt7:List (Nat×Value):=[(0,.bool false),(1,.pointer (some ⟨2,0,none⟩)),(2,.pointer (some ⟨5,0,none⟩)),(3,.int .i64 (2)),(4,.int .i64 (0)),(5,.int .i64 (3)),(6,.int .i64 (0)),(7,.slice (some ⟨2179,0,some 0⟩) 4 4),(8,.int .i64 (0))]
def lh7:List (Nat×Yg):=[bk0,bk1,bk5,bk3,bk6]
def lt8:List (Nat×Value):=[(0,.bool false),(1,.pointer (some ⟨2,0,none⟩)),(2,.pointer (some ⟨5,0,none⟩)),(3,.int .i64 (2)),(4,.int .i64 (0)),(5,.int .i64 (3)),(6,.int .i64 (0)),(7,.slice (some ⟨2179,0,some 0⟩) 4 4),(8,.int .i64 (0)),(9,.slice (some ⟨4140,0,some 0⟩) 1 1),(10,.int .i64 (0))]
def lh8:List (Nat×Yg):=[bk0,bk1,bk5,bk3,bk6,bk7]
def lt9:List (Nat×Value):=[(0,.bool false),(1,.pointer (some ⟨2,0,none⟩)),(2,.pointer (some ⟨5,0,none⟩)),(3,.int .i64 (2)),(4,.int .i64 (0)),(5,.int .i64 (3)),(6,.int .i64 (0)),(7,.slice (some ⟨2179,0,some 0⟩) 4 4),(8,.int .i64 (0)),(9,.slice (some ⟨4140,0,some 0⟩) 1 1),(10,.int .i64 (0)),(11,.pointer (some ⟨6117,0,none⟩)),(12,.int .i64 (0))]
def lh9:List (Nat×Yg):=[bk0,bk1,bk5,bk3,bk6,bk7,bk8]
def zqM:List (Nat×Value):=[(0,.bool false),(1,.pointer (some ⟨2,0,none⟩)),(2,.pointer (some ⟨5,0,none⟩)),(3,.int .i64 (2)),(4,.int .i64 (0)),(5,.int .i64 (3)),(6,.int .i64 (0)),(7,.slice (some ⟨2179,0,some 0⟩) 4 4),(8,.int .i64 (0)),(9,.slice (some ⟨4140,0,some 0⟩) 1 1),(10,.int .i64 (0)),(11,.pointer (some ⟨6117,0,none⟩)),(12,.int .i64 (0)),(13,.int .i64 (1)),(14,.int .i64 (0))]
def zqS:List (Nat×Yg):=[bk0,bk1,bk5,bk3,bk6,bk7,bk8]
def zqL:List (Nat×Value):=[(0,.bool false),(1,.pointer (some ⟨2,0,none⟩)),(2,.pointer (some ⟨5,0,none⟩)),(3,.int .i64 (2)),(4,.int .i64 (0)),(5,.int .i64 (3)),(6,.int .i64 (0)),(7,.slice (some ⟨2179,0,some 0⟩) 4 4),(8,.int .i64 (0)),(9,.slice (some ⟨4140,0,some 0⟩) 1 1),(10,.int .i64 (0)),(11,.pointer (some ⟨6117,0,none⟩)),(12,.int .i64 (0)),(13,.int .i64 (1)),(14,.int .i64 (0)),(15,.slice (some ⟨9779,0,some 0⟩) 2 3),(16,.slice (some ⟨9781,0,some 0⟩) 2 3),(17,.int .i64 (0))]
def zqR:List (Nat×Yg):=[bk0,bk1,bk5,bk3,bk6,bk7,bk8,bk9,zpS]
def zqK:List (Nat×Value):=[(0,.bool false),(1,.pointer (some ⟨2,0,none⟩)),(3,.int .i64 (2)),(4,.int .i64 (0)),(5,.int .i64 (3)),(6,.int .i64 (0)),(7,.slice (some ⟨2179,0,some 0⟩) 4 4),(8,.int .i64 (0)),(9,.slice (some ⟨4140,0,some 0⟩) 1 1),(10,.int .i64 (0)),(11,.pointer (some ⟨6117,0,none⟩)),(12,.int .i64 (0)),(13,.int .i64 (1)),(14,.int .i64 (0)),(15,.slice (some ⟨9779,0,some 0⟩) 2 3),(16,.slice (some ⟨9781,0,some 0⟩) 2 3),(17,.int .i64 (0)),(18,.slice (some ⟨12203,0,some 0⟩) 3 3),(19,.int .i64 (0))]
def zqQ:List (Nat×Yg):=[bk0,bk1,bk6,bk7,bk8,bk9,zpS,zqj]
def zqJ:List (Nat×Value):=[(0,.bool false),(3,.int .i64 (2)),(4,.int .i64 (0)),(5,.int .i64 (3)),(6,.int .i64 (0)),(7,.slice (some ⟨2179,0,some 0⟩) 4 4),(8,.int .i64 (0)),(9,.slice (some ⟨4140,0,some 0⟩) 1 1),(10,.int .i64 (0)),(11,.pointer (some ⟨6117,0,none⟩)),(12,.int .i64 (0)),(13,.int .i64 (1)),(14,.int .i64 (0)),(15,.slice (some ⟨9779,0,some 0⟩) 2 3),(16,.slice (some ⟨9781,0,some 0⟩) 2 3),(17,.int .i64 (0)),(18,.slice (some ⟨12203,0,some 0⟩) 3 3),(19,.int .i64 (0)),(20,.slice (some ⟨14573,0,some 0⟩) 1 1),(21,.int .i64 (0))]
def zqP:List (Nat×Yg):=[bk6,bk7,bk8,bk9,zpS,zqj,zr4]
def zqI:List (Nat×Value):=[(0,.bool false),(3,.int .i64 (2)),(5,.int .i64 (3)),(7,.slice (some ⟨2179,0,some 0⟩) 4 4),(9,.slice (some ⟨4140,0,some 0⟩) 1 1),(11,.pointer (some ⟨6117,0,none⟩)),(13,.int .i64 (1)),(15,.slice (some ⟨9779,0,some 0⟩) 2 3),(16,.slice (some ⟨9781,0,some 0⟩) 2 3),(18,.slice (some ⟨12203,0,some 0⟩) 3 3),(20,.slice (some ⟨14573,0,some 0⟩) 1 1),(22,.bool true)]
def zqO:List (Nat×Yg):=[bk6,bk7,bk8,bk9,zpS,zqj,zr4]
def zqH:List (Nat×Value):=[(0,.bool false),(15,.slice (some ⟨9779,0,some 0⟩) 2 3),(16,.slice (some ⟨9781,0,some 0⟩) 2 3),(18,.slice (some ⟨12203,0,some 0⟩) 3 3),(20,.slice (some ⟨14573,0,some 0⟩) 1 1),(22,.bool true),(23,.bool true)]
def zqN:List (Nat×Yg):=[bk9,zpS,zqj,zr4]
def zrA:List (Nat×Value):=[(0,.bool true)]
def zrB:List (Nat×Yg):=[]
end
theorem zmZ:zdX Tryz.prog 26 0 165=true:=by kernel_rfl
end
end Go.Proofs.YtdpipdniklognaaGreat
