/- The program's ChestMore returns true for all numbers without an exception and without changing its arguments: a part of the proof. -/
import Derived.Test.YtbieflpgjmgaiaaGreatVg
import Derived.Test.YtbieflpgjmgaiaaGreatVc
set_option linter.all false
/- What stands in memory behind the statements of sane; the calls that are known. -/
set_option maxRecDepth 100000
namespace Go.Proofs.YtbieflpgjmgaiaaGreat
noncomputable section
noncomputable def sCodes:List Code:=seqs (bodyOf Tryz.prog 10)
def bk0:Nat×LObj:=(0,.cells [.int .i64 (5),.int .i64 (7)] 3)
def bk1:Nat×LObj:=(1,.cells [.int .i64 (9)] 3)
def bk2:Nat×LObj:=(2,.cells [.int .i64 (5)] 3)
def bk3:Nat×LObj:=(3,.cells [.int .i64 (7)] 3)
def bk4:Nat×LObj:=(4,.cells [.int .i64 (9)] 3)
def bk5:Nat×LObj:=(5,.cells [.int .i64 (5)] 3)
def bk6:Nat×LObj:=(6,.cells [.int .i64 (5),.int .i64 (9)] 3)
def bk7:Nat×LObj:=(7,.cells [.int .i64 (9)] 3)
def bk8:Nat×LObj:=(8,.cells [.int .i64 (1),.int .i64 (1),.int .i64 (10),.int .i64 (30),.int .i64 (1),.slice (some ⟨0,0,none⟩) 2 2,.slice (some ⟨1,0,none⟩) 1 1,.int .i64 (0),.int .i64 (0),.int .i64 (2),.int .i64 (1),.int .i64 (40),.int .i64 (60),.int .i64 (0),.slice (some ⟨2,0,none⟩) 1 1,.slice (some ⟨3,0,none⟩) 1 1,.int .i64 (0),.int .i64 (0),.int .i64 (3),.int .i64 (2),.int .i64 (20),.int .i64 (45),.int .i64 (2),.slice (some ⟨4,0,none⟩) 1 1,.slice (some ⟨5,0,none⟩) 1 1,.int .i64 (8),.int .i64 (0),.int .i64 (4),.int .i64 (2),.int .i64 (50),.int .i64 (70),.int .i64 (1),.slice (some ⟨6,0,none⟩) 2 2,.slice none 0 0,.int .i64 (0),.int .i64 (0),.int .i64 (5),.int .i64 (2),.int .i64 (5),.int .i64 (12),.int .i64 (0),.slice (some ⟨7,0,none⟩) 1 1,.slice none 0 0,.int .i64 (20),.int .i64 (0)] 45)
def bk9:Nat×LObj:=(98,.cells [.int .i64 (1),.int .i64 (3),.int .i64 (2),.int .i64 (3)] 69)
def bk10:Nat×LObj:=(1103,.cells [.int .i64 (3)] 3)
def bk11:Nat×LObj:=(1675,.cells [.int .i64 (1),.int .i64 (5),.int .i64 (2),.int .i64 (3)] 69)
def bk12:Nat×LObj:=(4505,.cells [.int .i64 (2)] 3)
def bk13:Nat×LObj:=(4573,.cells [.int .i64 (5),.int .i64 (9),.int .i64 (0),.int .i64 (0),.int .i64 (0),.int .i64 (0),.int .i64 (0),.int .i64 (0),.int .i64 (0)] 3)
def bk14:Nat×LObj:=(5643,.cells [.int .i64 (1),.int .i64 (2),.int .i64 (3)] 3)
def bk15:Nat×LObj:=(5574,.cells [.slice (some ⟨8,0,none⟩) 5 5,.int .i64 (20),.map none] 98)
def bk16:Nat×LObj:=(5587,.cells [.int .i64 (5),.int .i64 (7)] 3)
def bk17:Nat×LObj:=(5589,.cells [.int .i64 (9)] 3)
def bk18:Nat×LObj:=(5596,.cells [.int .i64 (5)] 3)
def bk19:Nat×LObj:=(5598,.cells [.int .i64 (7)] 3)
def bk20:Nat×LObj:=(5605,.cells [.int .i64 (9)] 3)
def bk21:Nat×LObj:=(5607,.cells [.int .i64 (5)] 3)
def bk22:Nat×LObj:=(5614,.cells [.int .i64 (5),.int .i64 (9)] 3)
def bk23:Nat×LObj:=(5623,.cells [.int .i64 (1),.int .i64 (1),.int .i64 (10),.int .i64 (30),.int .i64 (1),.slice (some ⟨5587,0,some 0⟩) 2 2,.slice (some ⟨5589,0,some 0⟩) 1 1,.int .i64 (0),.int .i64 (0),.int .i64 (2),.int .i64 (1),.int .i64 (40),.int .i64 (60),.int .i64 (0),.slice (some ⟨5596,0,some 0⟩) 1 1,.slice (some ⟨5598,0,some 0⟩) 1 1,.int .i64 (0),.int .i64 (0),.int .i64 (3),.int .i64 (2),.int .i64 (20),.int .i64 (45),.int .i64 (2),.slice (some ⟨5605,0,some 0⟩) 1 1,.slice (some ⟨5607,0,some 0⟩) 1 1,.int .i64 (8),.int .i64 (0),.int .i64 (4),.int .i64 (2),.int .i64 (50),.int .i64 (70),.int .i64 (1),.slice (some ⟨5614,0,some 0⟩) 2 2,.slice none 0 0,.int .i64 (0),.int .i64 (0),.int .i64 (0),.int .i64 (0),.int .i64 (0),.int .i64 (0),.int .i64 (0),.slice none 0 0,.slice none 0 0,.int .i64 (0),.int .i64 (0)] 45)
def bk24:Nat×LObj:=(5624,.cells [.slice (some ⟨5623,0,some 0⟩) 4 5,.int .i64 (20),.map none] 98)
def lt0:List (Nat×Value):=[(0,.bool false)]
def lh0:List (Nat×LObj):=[]
def lt1:List (Nat×Value):=[(0,.bool false),(1,.slice (some ⟨8,0,none⟩) 5 5)]
def lh1:List (Nat×LObj):=[bk0,bk1,bk2,bk3,bk4,bk5,bk6,bk7,bk8]
def lt2:List (Nat×Value):=[(0,.bool false),(1,.slice (some ⟨8,0,none⟩) 5 5),(2,.slice (some ⟨98,0,some 0⟩) 2 2),(3,.int .i64 (0))]
def lh2:List (Nat×LObj):=[bk0,bk1,bk2,bk3,bk4,bk5,bk6,bk7,bk8,bk9]
def lt3:List (Nat×Value):=[(0,.bool false),(1,.slice (some ⟨8,0,none⟩) 5 5),(2,.slice (some ⟨98,0,some 0⟩) 2 2),(3,.int .i64 (0)),(4,.int .i64 (2)),(5,.int .i64 (0))]
def lh3:List (Nat×LObj):=[bk0,bk1,bk2,bk3,bk4,bk5,bk6,bk7,bk8,bk9]
def lt4:List (Nat×Value):=[(0,.bool false),(1,.slice (some ⟨8,0,none⟩) 5 5),(2,.slice (some ⟨98,0,some 0⟩) 2 2),(3,.int .i64 (0)),(4,.int .i64 (2)),(5,.int .i64 (0)),(6,.slice (some ⟨1103,0,some 0⟩) 1 1),(7,.int .i64 (0))]
def lh4:List (Nat×LObj):=[bk0,bk1,bk2,bk3,bk4,bk5,bk6,bk7,bk8,bk9,bk10]
def lt5:List (Nat×Value):=[(0,.bool false),(1,.slice (some ⟨8,0,none⟩) 5 5),(2,.slice (some ⟨98,0,some 0⟩) 2 2),(3,.int .i64 (0)),(4,.int .i64 (2)),(5,.int .i64 (0)),(6,.slice (some ⟨1103,0,some 0⟩) 1 1),(7,.int .i64 (0)),(8,.slice (some ⟨1675,0,some 0⟩) 2 2),(9,.int .i64 (0))]
def lh5:List (Nat×LObj):=[bk0,bk1,bk2,bk3,bk4,bk5,bk6,bk7,bk8,bk9,bk10,bk11]
def lt6:List (Nat×Value):=[(0,.bool false),(1,.slice (some ⟨8,0,none⟩) 5 5),(2,.slice (some ⟨98,0,some 0⟩) 2 2),(3,.int .i64 (0)),(4,.int .i64 (2)),(5,.int .i64 (0)),(6,.slice (some ⟨1103,0,some 0⟩) 1 1),(7,.int .i64 (0)),(8,.slice (some ⟨1675,0,some 0⟩) 2 2),(9,.int .i64 (0)),(10,.int .i64 (0)),(11,.int .i64 (0))]
def lh6:List (Nat×LObj):=[bk0,bk1,bk2,bk3,bk4,bk5,bk6,bk7,bk8,bk9,bk10,bk11]
def lt7:List (Nat×Value):=[(0,.bool false),(1,.slice (some ⟨8,0,none⟩) 5 5),(2,.slice (some ⟨98,0,some 0⟩) 2 2),(3,.int .i64 (0)),(4,.int .i64 (2)),(5,.int .i64 (0)),(6,.slice (some ⟨1103,0,some 0⟩) 1 1),(7,.int .i64 (0)),(8,.slice (some ⟨1675,0,some 0⟩) 2 2),(9,.int .i64 (0)),(10,.int .i64 (0)),(11,.int .i64 (0)),(12,.int .i64 (2)),(13,.int .i64 (0))]
def lh7:List (Nat×LObj):=[bk0,bk1,bk2,bk3,bk4,bk5,bk6,bk7,bk8,bk9,bk10,bk11]
def lt8:List (Nat×Value):=[(0,.bool false),(1,.slice (some ⟨8,0,none⟩) 5 5),(2,.slice (some ⟨98,0,some 0⟩) 2 2),(3,.int .i64 (0)),(4,.int .i64 (2)),(5,.int .i64 (0)),(6,.slice (some ⟨1103,0,some 0⟩) 1 1),(7,.int .i64 (0)),(8,.slice (some ⟨1675,0,some 0⟩) 2 2),(9,.int .i64 (0)),(10,.int .i64 (0)),(11,.int .i64 (0)),(12,.int .i64 (2)),(13,.int .i64 (0)),(14,.int .i64 (0)),(15,.int .i64 (0))]
def lh8:List (Nat×LObj):=[bk0,bk1,bk2,bk3,bk4,bk5,bk6,bk7,bk8,bk9,bk10,bk11]
def lt9:List (Nat×Value):=[(0,.bool false),(1,.slice (some ⟨8,0,none⟩) 5 5),(2,.slice (some ⟨98,0,some 0⟩) 2 2),(3,.int .i64 (0)),(4,.int .i64 (2)),(5,.int .i64 (0)),(6,.slice (some ⟨1103,0,some 0⟩) 1 1),(7,.int .i64 (0)),(8,.slice (some ⟨1675,0,some 0⟩) 2 2),(9,.int .i64 (0)),(10,.int .i64 (0)),(11,.int .i64 (0)),(12,.int .i64 (2)),(13,.int .i64 (0)),(14,.int .i64 (0)),(15,.int .i64 (0)),(16,.int .i64 (2)),(17,.int .i64 (0))]
def lh9:List (Nat×LObj):=[bk0,bk1,bk2,bk3,bk4,bk5,bk6,bk7,bk8,bk9,bk10,bk11]
def lt10:List (Nat×Value):=[(0,.bool false),(1,.slice (some ⟨8,0,none⟩) 5 5),(2,.slice (some ⟨98,0,some 0⟩) 2 2),(3,.int .i64 (0)),(4,.int .i64 (2)),(5,.int .i64 (0)),(6,.slice (some ⟨1103,0,some 0⟩) 1 1),(7,.int .i64 (0)),(8,.slice (some ⟨1675,0,some 0⟩) 2 2),(9,.int .i64 (0)),(10,.int .i64 (0)),(11,.int .i64 (0)),(12,.int .i64 (2)),(13,.int .i64 (0)),(14,.int .i64 (0)),(15,.int .i64 (0)),(16,.int .i64 (2)),(17,.int .i64 (0)),(18,.slice (some ⟨4505,0,some 0⟩) 1 1),(19,.int .i64 (0))]
def lh10:List (Nat×LObj):=[bk0,bk1,bk2,bk3,bk4,bk5,bk6,bk7,bk8,bk9,bk10,bk11,bk12]
def lt11:List (Nat×Value):=[(0,.bool false),(1,.slice (some ⟨8,0,none⟩) 5 5),(2,.slice (some ⟨98,0,some 0⟩) 2 2),(3,.int .i64 (0)),(4,.int .i64 (2)),(5,.int .i64 (0)),(6,.slice (some ⟨1103,0,some 0⟩) 1 1),(7,.int .i64 (0)),(8,.slice (some ⟨1675,0,some 0⟩) 2 2),(9,.int .i64 (0)),(10,.int .i64 (0)),(11,.int .i64 (0)),(12,.int .i64 (2)),(13,.int .i64 (0)),(14,.int .i64 (0)),(15,.int .i64 (0)),(16,.int .i64 (2)),(17,.int .i64 (0)),(18,.slice (some ⟨4505,0,some 0⟩) 1 1),(19,.int .i64 (0)),(20,.slice (some ⟨4573,0,some 0⟩) 2 9),(21,.int .i64 (0))]
def lh11:List (Nat×LObj):=[bk0,bk1,bk2,bk3,bk4,bk5,bk6,bk7,bk8,bk9,bk10,bk11,bk12,bk13]
def lt12:List (Nat×Value):=[(0,.bool false),(2,.slice (some ⟨98,0,some 0⟩) 2 2),(3,.int .i64 (0)),(4,.int .i64 (2)),(5,.int .i64 (0)),(6,.slice (some ⟨1103,0,some 0⟩) 1 1),(7,.int .i64 (0)),(8,.slice (some ⟨1675,0,some 0⟩) 2 2),(9,.int .i64 (0)),(10,.int .i64 (0)),(11,.int .i64 (0)),(12,.int .i64 (2)),(13,.int .i64 (0)),(14,.int .i64 (0)),(15,.int .i64 (0)),(16,.int .i64 (2)),(17,.int .i64 (0)),(18,.slice (some ⟨4505,0,some 0⟩) 1 1),(19,.int .i64 (0)),(20,.slice (some ⟨4573,0,some 0⟩) 2 9),(21,.int .i64 (0)),(22,.slice (some ⟨5643,0,some 0⟩) 3 3),(23,.int .i64 (0))]
def lh12:List (Nat×LObj):=[bk9,bk10,bk11,bk12,bk13,bk14]
def lt13:List (Nat×Value):=[(0,.bool false),(2,.slice (some ⟨98,0,some 0⟩) 2 2),(4,.int .i64 (2)),(6,.slice (some ⟨1103,0,some 0⟩) 1 1),(8,.slice (some ⟨1675,0,some 0⟩) 2 2),(10,.int .i64 (0)),(12,.int .i64 (2)),(14,.int .i64 (0)),(16,.int .i64 (2)),(18,.slice (some ⟨4505,0,some 0⟩) 1 1),(20,.slice (some ⟨4573,0,some 0⟩) 2 9),(22,.slice (some ⟨5643,0,some 0⟩) 3 3),(24,.bool true)]
def lh13:List (Nat×LObj):=[bk9,bk10,bk11,bk12,bk13,bk14]
def lt14:List (Nat×Value):=[(0,.bool false),(10,.int .i64 (0)),(12,.int .i64 (2)),(14,.int .i64 (0)),(16,.int .i64 (2)),(18,.slice (some ⟨4505,0,some 0⟩) 1 1),(20,.slice (some ⟨4573,0,some 0⟩) 2 9),(22,.slice (some ⟨5643,0,some 0⟩) 3 3),(24,.bool true),(25,.bool true)]
def lh14:List (Nat×LObj):=[bk12,bk13,bk14]
def lt15:List (Nat×Value):=[(0,.bool false),(24,.bool true),(25,.bool true),(26,.bool true)]
def lh15:List (Nat×LObj):=[]
def lt16:List (Nat×Value):=[(0,.bool true)]
def lh16:List (Nat×LObj):=[]
def mm0:Memo:=⟨55,[.pointer (some ⟨5574,0,none⟩),.int .i64 (1)],5632,[bk0,bk1,bk2,bk3,bk4,bk5,bk6,bk7,bk8,bk15],.int .i64 (2)⟩
def mm1:Memo:=⟨55,[.pointer (some ⟨5624,0,none⟩),.int .i64 (1)],5632,[bk16,bk17,bk18,bk19,bk20,bk21,bk22,bk23,bk24],.int .i64 (1)⟩
def mm2:Memo:=⟨55,[.pointer (some ⟨5574,0,none⟩),.int .i64 (2)],5637,[bk0,bk1,bk2,bk3,bk4,bk5,bk6,bk7,bk8,bk15],.int .i64 (2)⟩
def mm3:Memo:=⟨55,[.pointer (some ⟨5624,0,none⟩),.int .i64 (2)],5637,[bk16,bk17,bk18,bk19,bk20,bk21,bk22,bk23,bk24],.int .i64 (1)⟩
def mm4:Memo:=⟨55,[.pointer (some ⟨5574,0,none⟩),.int .i64 (3)],5642,[bk0,bk1,bk2,bk3,bk4,bk5,bk6,bk7,bk8,bk15],.int .i64 (2)⟩
def mm5:Memo:=⟨55,[.pointer (some ⟨5624,0,none⟩),.int .i64 (3)],5642,[bk16,bk17,bk18,bk19,bk20,bk21,bk22,bk23,bk24],.int .i64 (0)⟩
def mm6:Memo:=⟨55,[.pointer (some ⟨5574,0,none⟩),.int .i64 (4)],5647,[bk0,bk1,bk2,bk3,bk4,bk5,bk6,bk7,bk8,bk15],.int .i64 (1)⟩
def mm7:Memo:=⟨55,[.pointer (some ⟨5624,0,none⟩),.int .i64 (4)],5647,[bk16,bk17,bk18,bk19,bk20,bk21,bk22,bk23,bk24],.int .i64 (1)⟩
noncomputable def sM:Env:=memoE sG.E [55] [mm0,mm1,mm2,mm3,mm4,mm5,mm6,mm7]
end
theorem s_const:constFn Tryz.prog 10 0 182=true:=by kernel_rfl
end Go.Proofs.YtbieflpgjmgaiaaGreat
