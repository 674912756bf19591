/- Parts of a proof: contracts and laws. -/
import Derived.Test.YtodpincpofoiiaaGreatQI16
import Derived.Test.YtodpincpofoiiaaGreatQI34
import Derived.Test.YtodpincpofoiiaaGreatQI14
import Derived.Test.YtodpincpofoiiaaGreatQI10
import Derived.Test.YtodpincpofoiiaaGreatQI19
set_option maxRecDepth 100000
set_option maxHeartbeats 16000000
namespace Go.Proofs.YtodpincpofoiiaaGreat
section
set_option linter.unusedVariables false
set_option linter.unusedSimpArgs false
open Go.RowKit
def plB (x:BE):List V:=placeL x.b x.l

def bxB (x:BE):Bx:=((minL (xsL (plB x)),minL (ysL (plB x))),(maxL (xsL (plB x)),maxL (ysL (plB x))))
def massN (L:List BE) (i:Nat):Int:=match L[i]? with | some x=>x.b.mass | none=>0

def still2 (L:List BE) (p:Nat × Nat):Bool:=decide (massN L p.1=0) && decide (massN L p.2=0)
def nearL (L:List BE):List (Nat × Nat):=(pairsL (L.map bxB)).filter fun p => !still2 L p
def ptC (p:Nat × Nat) (t:Pt):Ct:=⟨p.1,p.2,t.2.2,t.1.1.1,t.1.1.2,t.1.2.1,t.1.2.2,t.2.1,0,0⟩
def plAt (L:List BE) (i:Nat):List V:=match L[i]? with | some x=>plB x | none=>[]

def fndP (L:List BE) (p:Nat × Nat):List Ct:=(ptsZ (plAt L p.1) (plAt L p.2)).map (ptC p)

def fndL (L:List BE):List Ct:=(nearL L).flatMap (fndP L)
theorem massN_at {L:List BE} {i:Nat} (h:i<L.length):massN L i=L[i].b.mass:=by unfold massN;rw [List.getElem?_eq_getElem h]
theorem plAt_at {L:List BE} {i:Nat} (h:i<L.length):plAt L i=plB L[i]:=by unfold plAt;rw [List.getElem?_eq_getElem h]
theorem mem_near {L:List BE} {p:Nat × Nat}:p ∈ nearL L↔(p.1<p.2∧p.2<L.length∧tchB (bxAt (L.map bxB) p.1) (bxAt (L.map bxB) p.2)=true)∧still2 L p=false:=by
 unfold nearL
 rw [List.mem_filter,mem_pairs,List.length_map]
 simp

def nearB (L:List BE) (i k:Nat):Bool := !still2 L (i,k) && tchB (bxAt (L.map bxB) i) (bxAt (L.map bxB) k)
def rowN (L:List BE) (i m:Nat):List (Nat × Nat):=((List.range m).filter fun k=>decide (i<k) && nearB L i k).map fun k=>(i,k)
def nearTo (L:List BE) (m:Nat):List (Nat × Nat):=(List.range m).flatMap fun i=>rowN L i L.length
theorem nearTo_succ (L:List BE) (m:Nat):nearTo L (m+1)=nearTo L m ++ rowN L m L.length:=by
 unfold nearTo
 rw [List.range_succ,List.flatMap_append]
 simp
theorem filter_flatMap' {α β : Type} (f : α → List β) (p : β → Bool) : ∀ l : List α, (l.flatMap f).filter p = l.flatMap fun a => (f a).filter p
 | []=>rfl
 | a :: l=>by rw [List.flatMap_cons,List.flatMap_cons,List.filter_append,filter_flatMap' f p l]
theorem row_near (L:List BE) (i:Nat):(rowP (L.map bxB) i L.length).filter (fun p => !still2 L p)=rowN L i L.length:=by
 unfold rowP rowN
 rw [List.filter_map,List.filter_filter]
 congr 1
 refine List.filter_congr fun k _=>?_
 show (!still2 L (i,k) && (decide (i<k) && tchB _ _))=_
 unfold nearB
 cases decide (i<k) <;> cases still2 L (i,k) <;> rfl
theorem nearTo_all (L:List BE):nearTo L L.length=nearL L:=by
 unfold nearTo nearL pairsL prsTo
 rw [filter_flatMap',List.length_map]
 congr 1
 funext i
 exact (row_near L i).symm
theorem rowN_len (L:List BE) (i m:Nat):(rowN L i m).length≤m:=by
 unfold rowN
 rw [List.length_map]
 exact Nat.le_trans (List.length_filter_le _ _) (by simp)
theorem nearTo_len (L : List BE) : ∀ m, (nearTo L m).length ≤ m * L.length
 | 0=>by unfold nearTo;simp
 | m+1=>by
  rw [nearTo_succ,List.length_append,Nat.add_mul,Nat.one_mul]
  have:=nearTo_len L m
  have:=rowN_len L m L.length
  omega
theorem near_len (L:List BE):(nearL L).length≤L.length*L.length:=by rw [← nearTo_all];exact nearTo_len L L.length
theorem ptsG_len (ref:List V) (e:Nat) (way:V) (id:Int) (g:(V × V) × Bool) (k:Nat):(ptsG ref e way id g k).length≤2:=by
 unfold ptsG
 split
 ·simp
 ·split <;> simp
 ·rw [List.length_append]
  split <;> split <;> simp
theorem ptsR_len (ref inc:List V) (e:Nat) (way:V) (id0:Int):(ptsR ref inc e way id0).length≤2:=by
 unfold ptsR
 split
 ·simp
 ·exact ptsG_len _ _ _ _ _ _
theorem ptsZ_len (l m:List V):(ptsZ l m).length≤2:=by
 unfold ptsZ
 split
 ·simp
 ·split <;> exact ptsR_len _ _ _ _ _
theorem fndP_len (L:List BE) (p:Nat × Nat):(fndP L p).length≤2:=by unfold fndP;rw [List.length_map];exact ptsZ_len _ _
theorem flatK_len {α β : Type} {f : α → List β} {n : Nat} (h : ∀ a, (f a).length ≤ n) : ∀ l : List α, (l.flatMap f).length ≤ l.length * n
 | []=>by simp
 | a :: l=>by
  rw [List.flatMap_cons,List.length_append,List.length_cons,Nat.add_mul,Nat.one_mul]
  have:=h a
  have:=flatK_len h l
  omega
theorem pairs_len (l:List Bx):(pairsL l).length≤l.length*l.length:=by
 have h1:=flatK_len (f:=fun i=>rowP l i l.length) (n:=l.length) (fun i=>by unfold rowP;rw [List.length_map];exact Nat.le_trans (List.length_filter_le _ _) (by simp)) (List.range l.length)
 rw [List.length_range] at h1
 exact h1
theorem fnd_len (L:List BE):(fndL L).length≤L.length*L.length*2:=by
 have h1:=flatK_len (fndP_len L) (nearL L)
 have h2:=Nat.mul_le_mul_right 2 (near_len L)
 unfold fndL
 omega

def fndTo (L:List BE) (P:List (Nat × Nat)) (m:Nat):List Ct:=(P.take m).flatMap (fndP L)
theorem fndTo_succ {L:List BE} {P:List (Nat × Nat)} {m:Nat} (h:m<P.length):fndTo L P (m+1)=fndTo L P m ++ fndP L P[m]:=by
 unfold fndTo
 rw [List.take_succ_eq_append_getElem h,List.flatMap_append]
 simp
theorem fndTo_all (L:List BE):fndTo L (nearL L) (nearL L).length=fndL L:=by unfold fndTo fndL;rw [List.take_length]
theorem fndTo_len (L:List BE) (P:List (Nat × Nat)) (m:Nat):(fndTo L P m).length≤P.length*2:=by
 have h1:=flatK_len (fndP_len L) (P.take m)
 have h2:(P.take m).length≤P.length:=by rw [List.length_take];omega
 have h3:=Nat.mul_le_mul_right 2 h2
 unfold fndTo
 omega
end
end Go.Proofs.YtodpincpofoiiaaGreat
