/- The program's ChestKnown returns true for all numbers without an exception and without changing its arguments: a part of the proof. -/
import Derived.Test.YtbieflpgjmgaiaaGreatVr
set_option linter.all false
/- Walks: the reference's matching. -/
set_option maxRecDepth 100000
namespace Go.Proofs.YtbieflpgjmgaiaaGreat
open Kuhn
variable {r:Rm}
end Go.Proofs.YtbieflpgjmgaiaaGreat
/- Walks: the reference's openings without some; whether some may be false. -/
set_option maxRecDepth 100000
namespace Go.Proofs.YtbieflpgjmgaiaaGreat
open Kuhn
variable {r:Rm}
def lessI (c:List Opn) (s:Int):List Opn:=(c.filter fun o=>!(o.source==s)).map cpO
theorem cpO_ok {o:Opn} (h:OkO o):OkO (cpO o):=⟨h.source,h.register,h.day,h.lawful,h.inn,h.out,h.com,h.known,h.until_⟩
theorem Vc.less {c:List Opn} (h:Vc c) (s:Int):Vc (lessI c s):=by
 refine ⟨fun o ho=>?_,?_⟩
 ·obtain ⟨x,hx,rfl⟩:=List.mem_map.1 ho
  exact cpO_ok (h.ok x (List.mem_filter.1 hx).1)
 ·unfold lessI
  rw [List.pairwise_map]
  exact h.rise.filter _
theorem lessI_len {c:List Opn} {s:Int}:(lessI c s).length≤c.length:=by
 unfold lessI
 rw [List.length_map]
 exact List.length_filter_le _ _
theorem Szs.of {c:List Opn} (hn:c.length<1000000) (h:∀ o,o∈c→Sz o):Szs c:=⟨hn,fun k hk=>h _ (getD_mem hk)⟩
theorem Szs.less {c:List Opn} (h:Szs c) (s:Int):Szs (lessI c s):=Szs.of (Nat.lt_of_le_of_lt lessI_len h.len) fun o ho=>by
 obtain ⟨x,hx,rfl⟩:=List.mem_map.1 ho
 exact cpO_sz (h.mem (List.mem_filter.1 hx).1)
theorem edg_lessI {c:List Opn} (h:Vc c) (x:Nat):edg (lessI c (Int.ofNat x))=less (edg c) [x]:=by
 have key:∀ o,o∈c→(((!(o.source==Int.ofNat x))=true) ↔ src o ∉ [x]):=fun o ho=>by
  have:=(h.ok o ho).src
  rw [this,List.mem_singleton]
  simp only [Bool.not_eq_true',beq_eq_false_iff_ne,Int.ofNat_eq_natCast]
  omega
 funext f y
 refine propext ?_
 unfold Kuhn.less
 rw [edg_iff,edg_iff]
 constructor
 ·rintro ⟨a,ha,b,hb,h1,rfl,rfl⟩
  obtain ⟨a',ha',rfl⟩:=List.mem_map.1 ha
  obtain ⟨b',hb',rfl⟩:=List.mem_map.1 hb
  obtain ⟨a1,a2⟩:=List.mem_filter.1 ha'
  obtain ⟨b1,b2⟩:=List.mem_filter.1 hb'
  exact ⟨⟨a',a1,b',b1,h1,rfl,rfl⟩,(key a' a1).1 a2,(key b' b1).1 b2⟩
 ·rintro ⟨⟨a,ha,b,hb,h1,rfl,rfl⟩,h2,h3⟩
  exact ⟨cpO a,List.mem_map.2 ⟨a,List.mem_filter.2 ⟨ha,(key a ha).2 h2⟩,rfl⟩,cpO b,List.mem_map.2 ⟨b,List.mem_filter.2 ⟨hb,(key b hb).2 h3⟩,rfl⟩,h1,rfl,rfl⟩
def lessF (c:List Opn) (S:List Int):List Opn:=S.foldl lessI c
theorem edg_lessF:∀ (X:List Nat) {c:List Opn},Vc c→edg (lessF c (X.map Int.ofNat))=less (edg c) X
 | [],c,_=>by
  funext f y
  refine propext ⟨fun h=>⟨h,(fun h=>(nomatch h)),(fun h=>(nomatch h))⟩,fun h=>h.1⟩
 | x::X,c,h=>by
  show edg (lessF (lessI c (Int.ofNat x)) (X.map Int.ofNat))=_
  rw [edg_lessF X (h.less _),edg_lessI h]
  funext f y
  refine propext ?_
  unfold Kuhn.less
  simp only [List.mem_cons,List.not_mem_nil,or_false,not_or]
  exact ⟨fun ⟨⟨h1,h2,h3⟩,h4,h5⟩=>⟨h1,⟨h2,h4⟩,h3,h5⟩,fun ⟨h1,⟨h2,h4⟩,h3,h5⟩=>⟨⟨h1,h2,h3⟩,h4,h5⟩⟩
theorem low_lessF {c:List Opn} (h:Vc c) (X:List Nat):lowN (edg (lessF c (X.map Int.ofNat)))=lowN (edg (lessC c X)):=by
 rw [edg_lessF X h,edg_less]
noncomputable def mayB (c:List Opn) (S:List Int):Bool:=Int.ofNat (lowN (edg (lessF c S)))+Int.ofNat S.length==Int.ofNat (lowN (edg c))
theorem mayB_iff {c:List Opn} (h:Vc c) {S:List Int} (hp:∀ x,x∈S→0≤x):mayB c S=true ↔ may c (natL S):=by
 have e:S=(natL S).map Int.ofNat:=by
  unfold natL
  rw [List.map_map]
  conv=>lhs;rw [←List.map_id S]
  refine List.map_congr_left fun x hx=>?_
  have:=hp x hx
  show x=Int.ofNat x.toNat
  simp only [Int.ofNat_eq_natCast];omega
 have e2:lowN (edg (lessF c S))=lowN (edg (lessC c (natL S))):=by rw [←low_lessF h,←e]
 unfold mayB may
 rw [e2,natL_len]
 simp only [beq_iff_eq,Int.ofNat_eq_natCast]
 omega
end Go.Proofs.YtbieflpgjmgaiaaGreat
/- Walks: the reference's answers. -/
set_option maxRecDepth 100000
namespace Go.Proofs.YtbieflpgjmgaiaaGreat
open Kuhn
variable {r:Rm}
noncomputable def sureB (c O:List Opn):Bool:=!mayB c (O.map (·.source))
def onP (day:Int) (o:Opn):Bool:=wth day o.day o.through
end Go.Proofs.YtbieflpgjmgaiaaGreat
/- Walks: the reference's True, Inside, Sealed: the same answers. -/
set_option maxRecDepth 100000
namespace Go.Proofs.YtbieflpgjmgaiaaGreat
open Kuhn
variable {r:Rm}
def hasP (paper:Int) (o:Opn):Bool:=hasI o.inn paper
def hasQ (paper:Int) (o:Opn):Bool:=hasI o.out paper
open Classical in
noncomputable def insR (c:List Opn) (paper day:Int):Int:=if sureB c ((c.filter (onP day)).filter (hasP paper))=true then 1 else if sureB c ((c.filter (onP day)).filter (hasQ paper))=true then 0 else 2
end Go.Proofs.YtbieflpgjmgaiaaGreat
/- Walks: the law of what is true, and lay in the chest, and was sealed. -/
set_option maxRecDepth 100000
namespace Go.Proofs.YtbieflpgjmgaiaaGreat
open Kuhn
variable {r:Rm}
theorem srcs_of {l:List Opn} (hR:Reg l) {p:Opn→Bool}:natL ((l.filter p).map (·.source))=(l.filter p).map src∧∀ x,x∈(l.filter p).map (·.source)→0≤x:=⟨(src_list hR p).2.2.1,(src_list hR p).1⟩
theorem sureB_iff {l:List Opn} {d:Int} (hR:Reg l) (p:Opn→Bool):sureB (cnt l d nb) (l.filter p)=true ↔ ¬ may (cnt l d nb) ((l.filter p).map src):=by
 obtain ⟨h1,h2⟩:=srcs_of hR (p:=p)
 have h3:=mayB_iff (hR.cnt d nb) h2
 rw [h1] at h3
 unfold sureB
 rw [Bool.not_eq_true',←Bool.not_eq_true,h3]
theorem on_in {l:List Opn} {d day paper:Int} (hp:paper≠0):((cnt l d nb).filter (onP day)).filter (hasP paper)=l.filter (inP d day paper):=by
 rw [cnt_nb,List.filter_filter,List.filter_filter]
 refine List.filter_congr fun x _=>?_
 unfold hasP onP inP
 rw [beq_false_of_ne hp,Bool.false_or]
 cases counts x d <;> cases wth day x.day x.through <;> simp
theorem on_out {l:List Opn} {d day paper:Int}:((cnt l d nb).filter (onP day)).filter (hasQ paper)=l.filter (outP d day paper):=by
 rw [cnt_nb,List.filter_filter,List.filter_filter]
 refine List.filter_congr fun x _=>?_
 unfold hasQ onP outP
 cases counts x d <;> cases wth day x.day x.through <;> simp
theorem insR_eq {l:List Opn} {d day paper:Int} (hR:Reg l) (hp:wth paper 1 999=true):insR (cnt l d nb) paper day=insI l d paper day:=by
 have hp:=wth_iff.1 hp
 unfold insR insI
 rw [on_in (by omega),on_out]
 have h1:=sureB_iff (d:=d) hR (inP d day paper)
 have h2:=sureB_iff (d:=d) hR (outP d day paper)
 by_cases m1:may (cnt l d nb) ((l.filter (inP d day paper)).map src)
 ·rw [if_neg (fun h=>h1.1 h m1),if_pos m1]
  by_cases m2:may (cnt l d nb) ((l.filter (outP d day paper)).map src)
  ·rw [if_neg (fun h=>h2.1 h m2),if_pos m2]
  ·rw [if_pos (h2.2 m2),if_neg m2]
 ·rw [if_pos (h1.2 m1),if_neg m1]
theorem ask2_day {l:List Opn} {day d:Int} (hR:Reg l):ask2 l day d=if (wth day 0 100000&&wth d 0 100000)=true then 0 else 6:=if_pos hR
theorem VP.hook {E:Env} {f:FuncId} (hk:hookL E f []=true):VP E f [] (bv true) :=
 ⟨rfl,fun S Z j vs hS hv hl=>by
  cases hv
  exact ⟨1,.bool true,S,fun m hm=>by
   obtain ⟨k,rfl,_⟩:=le_succ_ex hm
   show bf (hookL E f []) _ _=_
   rw [hk];rfl,bv true,[],Z,j,hS,.p (.bool true),Ex.refl _ _ _,hl,Stay.refl _ _,rfl,rfl⟩⟩
theorem same_not {x:Int} {P:Prop} (h:(x==x)=false):P:=by rw [beq_self_eq_true] at h;cases h
end Go.Proofs.YtbieflpgjmgaiaaGreat
