/- Parts of a proof: contracts and laws. -/
import Derived.Test.YtokgmcomgflloaaGreatQP45
import Derived.Shelf.Sort.Plain
import Derived.Shelf.Slices.In.SortNone
import Derived.Sort.OwnSortedInts
import Derived.Test.YtokgmcomgflloaaGreatQP03
set_option maxRecDepth 100000
set_option maxHeartbeats 16000000
namespace Go.Proofs.YtokgmcomgflloaaGreat
section
set_option linter.unusedVariables false
set_option linter.unusedSimpArgs false
open Go.Shelf
open Go.RowKit Go.Sort
variable {w0 w w':World}
def xP:Go.Shelf.Ren:=⟨fun | 189=>208 | 125=>138 | 257=>239 | 128=>196 | 129=>197 | 294=>255 | 295=>256 | 296=>257 | 297=>258 | 298=>259 | 299=>260 | 216=>261 | 300=>262 | 301=>263 | 328=>268 | 329=>232 | 330=>233 | 331=>269 | 332=>270 | 215=>139 | 343=>273 | n=>n,fun | 28=>45 | 3=>3 | 46=>191 | 0=>0 | 51=>235 | 53=>118 | 4=>4 | 183=>229 | 182=>228 | 131=>154 | 5=>5 | 9=>9 | 218=>259 | 222=>263 | 228=>277 | 229=>278 | n=>n,fun | n=>n⟩
theorem wJ : Go.Proofs.Lays.n189 Tryz.prog xP := {
 mixed:=by kernel_rfl
 f125:=Tryz.func138.trans (congrArg some (by kernel_rfl))
 f128:=Tryz.func196.trans (congrArg some (by kernel_rfl))
 f129:=Tryz.func197.trans (congrArg some (by kernel_rfl))
 f189:=Tryz.func208.trans (congrArg some (by kernel_rfl))
 f215:=Tryz.func139.trans (congrArg some (by kernel_rfl))
 f216:=Tryz.func261.trans (congrArg some (by kernel_rfl))
 f257:=Tryz.func239.trans (congrArg some (by kernel_rfl))
 f294:=Tryz.func255.trans (congrArg some (by kernel_rfl))
 f295:=Tryz.func256.trans (congrArg some (by kernel_rfl))
 f296:=Tryz.func257.trans (congrArg some (by kernel_rfl))
 f297:=Tryz.func258.trans (congrArg some (by kernel_rfl))
 f298:=Tryz.func259.trans (congrArg some (by kernel_rfl))
 f299:=Tryz.func260.trans (congrArg some (by kernel_rfl))
 f300:=Tryz.func262.trans (congrArg some (by kernel_rfl))
 f301:=Tryz.func263.trans (congrArg some (by kernel_rfl))
 f328:=Tryz.func268.trans (congrArg some (by kernel_rfl))
 f329:=Tryz.func232.trans (congrArg some (by kernel_rfl))
 f330:=Tryz.func233.trans (congrArg some (by kernel_rfl))
 f331:=Tryz.func269.trans (congrArg some (by kernel_rfl))
 f332:=Tryz.func270.trans (congrArg some (by kernel_rfl))
 f343:=Tryz.func273.trans (congrArg some (by kernel_rfl))
 t0:=Tryz.underlying0
 a0:=Tryz.isAgg0
 z0:=Tryz.sizeOf0
 v0:=Tryz.zeroValue0
 t3:=Tryz.underlying3
 a3:=Tryz.isAgg3
 z3:=Tryz.sizeOf3
 v3:=Tryz.zeroValue3
 t4:=Tryz.underlying4
 a4:=Tryz.isAgg4
 z4:=Tryz.sizeOf4
 v4:=Tryz.zeroValue4
 t5:=Tryz.underlying5
 a5:=Tryz.isAgg5
 z5:=Tryz.sizeOf5
 v5:=Tryz.zeroValue5
 t9:=Tryz.underlying9
 a9:=Tryz.isAgg9
 z9:=Tryz.sizeOf9
 v9:=Tryz.zeroValue9
 t28:=Tryz.underlying45
 a28:=Tryz.isAgg45
 z28:=Tryz.sizeOf45
 v28:=Tryz.zeroValue45
 t46:=Tryz.underlying191
 a46:=Tryz.isAgg191
 z46:=Tryz.sizeOf191
 v46:=Tryz.zeroValue191
 t51:=Tryz.underlying235
 a51:=Tryz.isAgg235
 z51:=Tryz.sizeOf235
 v51:=Tryz.zeroValue235
 t53:=Tryz.underlying118
 a53:=Tryz.isAgg118
 z53:=Tryz.sizeOf118
 v53:=Tryz.zeroValue118
 t131:=Tryz.underlying154
 a131:=Tryz.isAgg154
 z131:=Tryz.sizeOf154
 v131:=Tryz.zeroValue154
 t182:=Tryz.underlying228
 a182:=Tryz.isAgg228
 z182:=Tryz.sizeOf228
 v182:=Tryz.zeroValue228
 t183:=Tryz.underlying229
 a183:=Tryz.isAgg229
 z183:=Tryz.sizeOf229
 v183:=Tryz.zeroValue229
 t218:=Tryz.underlying259
 a218:=Tryz.isAgg259
 z218:=Tryz.sizeOf259
 v218:=Tryz.zeroValue259
 t222:=Tryz.underlying263
 a222:=Tryz.isAgg263
 z222:=Tryz.sizeOf263
 v222:=Tryz.zeroValue263
 t228:=Tryz.underlying277
 a228:=Tryz.isAgg277
 z228:=Tryz.sizeOf277
 v228:=Tryz.zeroValue277
 t229:=Tryz.underlying278
 a229:=Tryz.isAgg278
 z229:=Tryz.sizeOf278
 v229:=Tryz.zeroValue278 }
theorem DJ (o:List Nat):eY bJ o=(o.map (fun i:Nat=>(i:Int))).map (Value.int .i64):=by
 induction o with
 | nil=>rfl
 | cons a o ih=>unfold eY at *;rw [List.flatMap_cons,ih];rfl
theorem yF (B:Nat) (s:Value) (o:List Nat) (w:World) (hs:aN bJ 3 w B s o) (hl:o.length≤1000000) :
  Calls Tryz.prog 208 #[s] w fun e w'=>e = .returned (.tuple #[])∧(∃ o',o'.Perm o∧o'.Pairwise (·≤·)∧aN bJ 3 w' B s o')∧w.grownBy w' s.ownBlock:=by
 obtain ⟨h1,⟨rfl,h0⟩ | ⟨g,cap,cur,rfl,hB,hg,hn,hm,hsz,ht⟩⟩:=hs
 ·refine (Any.slices_Sort_int_none wJ none 0 w).mono ?_;rintro e w' ⟨rfl,rfl⟩;have ho:o=[]:=by simpa using h0
  subst ho;exact ⟨rfl,⟨[],List.Perm.refl _,List.Pairwise.nil,aN.nil _ _ _ _⟩,⟨rfl,rfl,rfl,Nat.le_refl _,fun _ _ _=>rfl⟩⟩
 ·have hz : (o.map (fun i : Nat => (i : Int))).length = o.length := by simp
  have ht':cur.toList.take (o.map (fun i:Nat=>(i:Int))).length=(o.map (fun i:Nat=>(i:Int))).map (Value.int .i64):=by
   rw [← DJ,hz];simpa [bJ] using ht
  have hgl:g<w.heap.size:=(Array.getElem?_eq_some_iff.1 hg).1;have hc:=Any.slices_Sort_int wJ g 0 cap (o.map (fun i:Nat=>(i:Int))) w (holds_of_blockI hg ht') hgl (by rw [hz];omega);rw [hz] at hc;refine hc.mono ?_;rintro e w' ⟨rfl,n,os,rfl⟩;have hp:((o.map (fun i:Nat=>(i:Int))).mergeSort fun x y=>decide (x≤y)).Perm (o.map (fun i:Nat=>(i:Int))):=List.mergeSort_perm _ _;have hpw:((o.map (fun i:Nat=>(i:Int))).mergeSort fun x y=>decide (x≤y)).Pairwise (fun x y=>decide (x≤y)=true):=List.pairwise_mergeSort (fun a b c h1 h2=>by simp at *;omega) (fun a b=>by simp;omega) _;obtain ⟨ts,hts⟩:∃ ts,ts=((o.map (fun i:Nat=>(i:Int))).mergeSort fun x y=>decide (x≤y)):=⟨_,rfl⟩;rw [← hts] at hp hpw ⊢
  have hnn:∀ x ∈ ts,0≤x:=fun x hx=>by
   obtain ⟨y,-,rfl⟩:=List.mem_map.1 (hp.mem_iff.1 hx);omega
  have hback:(ts.map Int.toNat).map (fun i:Nat=>(i:Int))=ts:=by
   rw [List.map_map];refine (List.map_congr_left fun x hx=>?_).trans (List.map_id _);have:=hnn x hx;show ((x.toNat:Nat):Int)=id x;simp;omega
  have hlen:ts.length=(o.map (fun i:Nat=>(i:Int))).length:=hp.length_eq;have hown:=ownsRow_sortedI (e:=3) (os:=os) (n:=n) (base:=B) hlen hB hg (by rw [hz];exact hn) hm (by simpa [bJ] using hsz);refine ⟨rfl,⟨ts.map Int.toNat,?_,?_,?_⟩,grownBy_sortedI _⟩
  ·refine (hp.map Int.toNat).trans ?_;rw [List.map_map];refine List.Perm.of_eq ((List.map_congr_left fun x _=>?_).trans (List.map_id _));simp
  ·refine List.pairwise_map.2 (hpw.imp_of_mem fun {a b} ha hb h => ?_);have h:a≤b:=by simpa using h
   have:=hnn a ha;have:=hnn b hb;omega
  ·show World.ownsRow _ _ _ _ _ _ _;rw [DJ,hback];have hl2:(ts.map Int.toNat).length=o.length:=by rw [List.length_map,hlen,hz]
   rw [hl2];rw [hz] at hown;exact hown
structure oC (w : World) (b off i : Nat) : Prop where
 ce:aM bJ w b off [i]
theorem oC.here (w:World) (i:Nat) (t:TypeId):oC (w.alloc (.cells #[.int .i64 (i:Nat)] t)) w.heap.size 0 i :=
 ⟨⟨by simp,fun j hj m v hv=>by
  obtain rfl:j=0:=by simpa using hj
  match m,hv with
  | 0,hv=>have e:some (Value.int .i64 (i:Nat))=some v:=hv;cases e;show World.cell? _ ⟨_,0+0*1+0,none⟩=_;go_simp
  | m+1,hv=>simp [bJ] at hv⟩⟩
theorem oC.drew {b off i:Nat} (h:oC w b off i):oC w.drew b off i:=⟨h.ce.below (Below.refl _ _).drew⟩
structure F6 (w : World) (g : Nat) (v : Value) : Prop where
 c:w.cell? ⟨g,0,none⟩=some v
 f:∀ j,w.frozen? ⟨g,j,none⟩=false
theorem Nw {g:Nat} {v:Value} (hb:Below w.heap.size w w') (h:F6 w g v):F6 w' g v:=⟨keepCell hb h.c,fun j=>(World.frozen?_of_block (hb.block _ (lt_of_cell h.c))).trans (h.f j)⟩
theorem yH {g:Nat} {s:TS} (h:Mem w0 g s) (gl i:Nat) (b:Bx) (up:Option Addr) (w':World) (out:List Nat) (hr:s.nd gl=some ⟨b,((i:Nat):Int),0,up,none,none⟩) (hS:zJ w0 w' out) (hl:out.length<256) :
  Calls Tryz.prog 207 #[.pointer (pA gl),.pointer (some ⟨w0.heap.size,0,none⟩)] w' (fun e w''=>e = .returned (.tuple #[])∧zJ w0 w'' (out ++ [i])):=by
 obtain ⟨⟨v,hc,ho⟩,hf,hB⟩:=hS;have k4:=hid ((h.below hB).nd _ _ hr).c4;have HO:=hid ho;have HB:=hid hB;have VA0:Hid (F6 w'.drew w0.heap.size v):=⟨hc,hf⟩;clear ho hB hf h hr hc
 go_enter Tryz.func207,Tryz.ntmps207
 go_upto_region 0 with fail
 refine wp_region_noPanic ?_;refine au (S:=(S3 (fun w'=>F6 w' w0.heap.size v∧w'.cell? ⟨gl,4,none⟩=some (.int .i64 (i:Nat))∧aN bJ 3 w' (w0.heap.size+1) v out∧Below w0.heap.size w0 w') (fun w'=>F6 w' w0.heap.size v))) (T:=(fun j=>[0,0,0,0,0,0,1,2].getD j 0)) (by kernel_rfl) (qL ⟨VA0.out,k4.out,HO.out,HB.out.drew⟩) (fun hH=>?_);have hWr1:aG (S3 (fun w'=>F6 w' w0.heap.size v∧w'.cell? ⟨gl,4,none⟩=some (.int .i64 (i:Nat))∧aN bJ 3 w' (w0.heap.size+1) v out∧Below w0.heap.size w0 w') (fun w'=>F6 w' w0.heap.size v)):=jL (fun _ ⟨q0,q1,q2,q3⟩=>q0);refine dG [(0,3),(1,4),(2,5),(3,6),(4,7)] 3 0 0 (L':=?Lr1_1) hWr1 hH ?yr1_1 ?_
 case yr1_1=>((iterate 5 apply dF;rfl;kernel_rfl;intro w' hSw;replace hSw:=jf hSw;(try dsimp only at hSw);have q0:=hSw.1;have q1:=hSw.2.1;have q2:=hSw.2.2.1;have q3:=hSw.2.2.2;obtain ⟨qa0_0,qa0_1⟩:=id q0;(try simp only [sB,sC]);go_simp;(try with_reducible rfl));exact dD)
 simp only [sB,sC];refine U1 5 0 rfl (fun K hK=>?_)
 try clear hb
 have hG:=hH;replace hG:=jf hG;(try dsimp only at hG);have q0:=hG.1;have q1:=hG.2.1;have q2:=hG.2.2.1;have q3:=hG.2.2.2;go_simp;refine hK.out _ _ (qL (by have hG:=hH;replace hG:=jf hG;(try dsimp only at hG);have q0:=hG.1;have q1:=hG.2.1;have q2:=hG.2.2.1;have q3:=hG.2.2.2;exact ⟨Nw Ba q0,keepCell Ba q1,q2.alloc _,q3.alloc q3.size _⟩)) (fun hH2=>?_);clear hK K hH
 rename _=>hH
 try simp only [Act.put,sA,sB,sC]
 have hN:oC ((w'.alloc (.cells #[.int .i64 (i:Nat)] 3)).drew) w'.heap.size 0 i:=oC.drew (oC.here _ _ _);obtain ⟨gN,hgN⟩:∃ g,g=w'.heap.size:=⟨_,rfl⟩;have hlN:w0.heap.size<gN:=by rw [hgN];have:=lt_of_cell q0.c;exact this
 rw [← hgN] at hN
 try rw [← hgN]
 clear hgN q0 q1 q2 q3;generalize (w'.alloc (.cells #[.int .i64 (i:Nat)] 3)).drew=wx5 at *
 refine U1 6 1 rfl (fun K hK=>?_);have hG:=hH;replace hG:=jf hG;(try dsimp only at hG);have q0:=hG.1;have q1:=hG.2.1;have q2:=hG.2.2.1;have q3:=hG.2.2.2
 (refine iw Nv (by rfl) _ _ (by rfl) (w0.heap.size+1) v out (by rfl) q2 gN 0 1 1 [i] (by rfl) (by rfl) hN.ce (by simp;omega) (by simp;omega) (by have:=lt_of_cell q0.c;omega) ?_;intro s' wn hos hgs hat;obtain ⟨A9,n9,c9,rfl,-,-⟩:=hos.sl)
 refine hK.out _ _ (xB ⟨hgs.cell q0.c (q2.ne (Nat.lt_succ_self _)),fun j=>(World.frozen?_of_block (hgs.block _ (lt_of_cell q0.c) (q2.ne (Nat.lt_succ_self _)))).trans (q0.f j)⟩) (fun hH2=>?_);clear hK K hH
 rename _=>hH
 try simp only [Act.put,List.getElem_toArray,List.getElem_cons_succ,List.getElem_cons_zero,sA,sB,sC]
 have HOS:=hid hos;have HBE:=hid (q3.grown hgs q3.size (fun k hk=>by have:=(q2.lt hk).1;omega));clear hos hgs hat hN hlN q0 q1 q2 q3 hG;refine U1 7 2 rfl (fun K hK=>?_);have hG:=hH;replace hG:=xW hG;(try dsimp only at hG);have q0:=hG;obtain ⟨qa0_0,qa0_1⟩:=id q0;go_simp;refine hK.out _ _ (yS) (fun hH2=>?_);clear hK K hH
 rename _=>hH
 try simp only [Act.put,sA,sB,sC]
 have HV:=hid q0;clear q0 qa0_0 qa0_1 hG;refine ak (by kernel_rfl) ?_ _ _;refine NoPanic.normal ?_;have hne:∀ k,(Value.slice A9 n9 c9).ownBlock=some k→k≠w0.heap.size:=fun k hk=>by have:=(HOS.out.lt hk).1;omega
 have hW:zJ w0 (wn.setCell ⟨w0.heap.size,0,none⟩ (.slice A9 n9 c9)) (out ++ [i]):=⟨⟨_,dZ HV.out.c,HOS.out.off hne 0 _⟩,cK HV.out.f _ _,HBE.out.setCell (p:=⟨w0.heap.size,0,none⟩) (Nat.le_refl _) _⟩
 go_returns
 exact ⟨rfl,hW⟩

def MJ (F:Nat→Option Bx) (is:Bx→Bool) (w:World) (e:Ending) (w':World):Prop:=∃ A n c,e = .returned (.slice A n c)∧dN bJ w' A n c (mD F is)∧(∀ b off,A=some ⟨b,off,none⟩→w.heap.size≤b)∧Below w.heap.size w w'
theorem Pq (args:Array Value) (w:World):(callFunc 207 args).run Tryz.prog w = .ok (.enter 207 args) w:=by kernel_rfl
theorem Nc (args:Array Value) (w:World):(callFunc 144 args).run Tryz.prog w = .ok (.enter 144 args) w:=by kernel_rfl

theorem DL {w0 : World} {g : Nat} {s : TS} {T : Option TB} (h : Mem w0 g s) (hW : WF s T) (F G : Nat) (p1 : Value) (is : Bx → Bool)
  (hcf:∀ (args:Array Value) (w:World),(callFunc F args).run Tryz.prog w = .ok (.enter F args) w) (hcg:∀ (args:Array Value) (w:World),(callFunc G args).run Tryz.prog w = .ok (.enter G args) w)
  (HIS:Hid (∀ b1 b2 b3 b4 w',Below w0.heap.size w0 w'→Calls Tryz.prog F #[pJ ((b1,b2),(b3,b4)),p1] w' (dS (.bool (is ((b1,b2),(b3,b4)))) w')))
  (HLF:Hid (∀ gl i b up w' out,s.nd gl=some ⟨b,((i:Nat):Int),0,up,none,none⟩→zJ w0 w' out→out.length<256→Calls Tryz.prog G #[.pointer (pA gl),.pointer (some ⟨w0.heap.size,0,none⟩)] w' (fun e w''=>e = .returned (.tuple #[])∧zJ w0 w'' (out ++ [i]))))
  (hm:∀ x y,is x=true∨is y=true→is (fF x y)=true) (w:World) (hS:zJ w0 w []) :
  Calls Tryz.prog 206 #[.pointer s.root,.func (.func F) #[] #[p1],.func (.func G) #[] #[.pointer (some ⟨w0.heap.size,0,none⟩)]] w (fun e w'=>e = .returned (.tuple #[])∧zJ w0 w' (((iG T).filter (fun y=>is y.2.2)).map (fun y=>y.2.1))):=by
 cases T with
 | none =>
  have hr:s.root=none:=hW.root;rw [hr];have HS:=hid hS;clear h hW hr hS HIS HLF hm
  go_enter Tryz.func206,Tryz.ntmps206
  go_wp2
  go_returns
  exact ⟨rfl,HS.out⟩
 | some t =>
  obtain ⟨h1,h2,h3,h4⟩:=hW.root;rw [h1];refine (qp h F G p1 is hcf hcg HIS HLF t none w [] h2 hS (by have:=hW.len;simpa using this)).mono ?_;rintro e w' ⟨rfl,hw⟩;refine ⟨rfl,?_⟩;rw [List.nil_append,NM hm] at hw;exact hw
theorem JO {w : World} {g : Nat} {s : TS} {T : Option TB} (h : Mem w g s) (hW : WF s T) (F : Nat) (p1 : Value) (is : Bx → Bool)
  (hcf:∀ (args:Array Value) (w:World),(callFunc F args).run Tryz.prog w = .ok (.enter F args) w)
  (HIS:Hid (∀ b1 b2 b3 b4 w',Below w.heap.size w w'→Calls Tryz.prog F #[pJ ((b1,b2),(b3,b4)),p1] w' (dS (.bool (is ((b1,b2),(b3,b4)))) w')))
  (hm:∀ x y,is x=true∨is y=true→is (fF x y)=true) :
  Calls Tryz.prog 143 #[.pointer (pA g),.func (.func F) #[] #[p1]] w (MJ (sK T) is w):=by
 obtain ⟨W,hWw⟩:∃ W,W=w.alloc (.cells #[.slice none 0 0] 45):=⟨_,rfl⟩;have hb:Below w.heap.size w W:=by rw [hWw];go_grown
 have hc:W.cell? ⟨w.heap.size,0,none⟩=some (.slice none 0 0):=by rw [hWw];go_simp
 have HS0:zJ w W []:=⟨⟨_,hc,aN.nil _ _ _ _⟩,fun j=>by rw [hWw];unfold World.frozen?;rw [heap_alloc_new];simp,hb⟩;have HWK:=hid (DL h hW F 207 p1 is hcf Pq HIS (hid (fun gl i b up w' out hr hS hl=>yH h gl i b up w' out hr hS hl)) hm W HS0);have hr:=(h.below hb).root;have hlg:=lt_of_cell hr;have HLAW:Hid (∀ m:List Nat,m.Perm (((iG T).filter (fun y=>is y.2.2)).map (fun y=>y.2.1))→m.Pairwise (·≤·)→m=mD (sK T) is):=fun m h1 h2=>OQ hW is h1 h2
 have HLEN:Hid ((((iG T).filter (fun y=>is y.2.2)).map (fun y=>y.2.1)).length≤1000000):=by
  show _≤_;have h1:=List.length_filter_le (fun y:Nat × (Nat × Bx)=>is y.2.2) (iG T)
  have h2:(iG T).length≤256:=by
   cases T with
   | none=>simp [iG]
   | some t=>exact hW.len
  rw [List.length_map];omega
 show Calls _ _ _ _ (fun e w'=>∃ A n c,e = .returned (.slice A n c)∧dN bJ w' A n c (mD (sK T) is)∧(∀ b off,A=some ⟨b,off,none⟩→w.heap.size≤b)∧Below w.heap.size w w');generalize ((iG T).filter (fun y=>is y.2.2)).map (fun y=>y.2.1)=L at *
 generalize mD (sK T) is=R at *
 clear h hW hm HIS hb hc HS0 hcf
 go_enter Tryz.func143,Tryz.ntmps143
 go_upto_region 2 with fail
 rw [← hWw];clear hWw
 go_wp2_with fail
 refine HWK.out.mono ?_;rintro e w2 ⟨rfl,⟨v,hc,ho⟩,hf,hbl⟩;have hne:=ho.ne (Nat.lt_succ_self w.heap.size);have HSO:=hid (yF (w.heap.size+1) v L w2 ho HLEN.out);have HB2:=hid hbl;have HOW:=hid ho;have lc:=lt_of_cell hc;clear HWK hr hlg hf hbl ho
 go_wp2_with fail
 refine HSO.out.mono ?_;rintro e w3 ⟨rfl,⟨o',hp,hpw,ho'⟩,hg⟩;have hc3:=hg.cell hc hne;have lc3:=lt_of_cell hc3;obtain ⟨A9,n9,c9,rfl,hsl,hfr⟩:=ho'.sl;have hR:o'=R:=HLAW.out o' hp hpw;subst hR;have HFIN:Hid (dN bJ w3 A9 n9 c9 o'∧(∀ b off,A9=some ⟨b,off,none⟩→w.heap.size≤b)∧Below w.heap.size w w3):=⟨hsl,fun b off e=>Nat.le_of_succ_le (hfr b off e),HB2.out.grown hg HB2.out.size (fun k hk=>by have:=(HOW.out.lt hk).1;omega)⟩;clear HSO HLAW HLEN hc hne hp hpw ho' hsl hfr hg HB2 HOW lc;go_wp2
 go_returns
 exact ⟨A9,n9,c9,rfl,HFIN.out.1,HFIN.out.2.1,HFIN.out.2.2⟩
theorem Ce (gb:Nat) (x1 x2 x3 x4 b1 b2 b3 b4:Int) (w:World) (c0:w.cell? ⟨gb,0,none⟩=some (.int .i64 b1)) (c1:w.cell? ⟨gb,1,none⟩=some (.int .i64 b2)) (c2:w.cell? ⟨gb,2,none⟩=some (.int .i64 b3)) (c3:w.cell? ⟨gb,3,none⟩=some (.int .i64 b4)) :
  Calls Tryz.prog 144 #[pJ ((x1,x2),(x3,x4)),.pointer (some ⟨gb,0,none⟩)] w (dS (.bool (dY ((x1,x2),(x3,x4)) ((b1,b2),(b3,b4)))) w):=by
 have lb:=lt_of_cell c0;have HM:=hid (fun w=>Ep x1 x2 x3 x4 b1 b2 b3 b4 w);generalize dY ((x1,x2),(x3,x4)) ((b1,b2),(b3,b4))=z at *
 go_enter Tryz.func144,Tryz.ntmps144
 go_wp2_with fail
 refine (HM.out _).mono ?_;rintro e w1 ⟨rfl,hb⟩;have hB:Below w.heap.size w w1:=aj hb (by go_grown);clear hb c0 c1 c2 c3 lb HM;go_wp2
 go_returns
 exact bg (by simp) hB
theorem Dt {g:Nat} {s:TS} {T:Option TB} (h:Mem w g s) (hW:WF s T) (b1 b2 b3 b4:Int) :
  Calls Tryz.prog 84 #[.pointer (pA g),pJ ((b1,b2),(b3,b4))] w (MJ (sK T) (fun x=>dY x ((b1,b2),(b3,b4))) w):=by
 obtain ⟨W,hWw⟩:∃ W,W=w.alloc (.cells #[.int .i64 b1,.int .i64 b2,.int .i64 b3,.int .i64 b4] 64):=⟨_,rfl⟩;have hb:Below w.heap.size w W:=by rw [hWw];go_grown
 have c0:W.cell? ⟨w.heap.size,0,none⟩=some (.int .i64 b1):=by rw [hWw];go_simp
 have c1:W.cell? ⟨w.heap.size,1,none⟩=some (.int .i64 b2):=by rw [hWw];go_simp
 have c2:W.cell? ⟨w.heap.size,2,none⟩=some (.int .i64 b3):=by rw [hWw];go_simp
 have c3:W.cell? ⟨w.heap.size,3,none⟩=some (.int .i64 b4):=by rw [hWw];go_simp
 have HI:=hid (JO (h.below hb) hW 144 (.pointer (some ⟨w.heap.size,0,none⟩)) (fun x=>dY x ((b1,b2),(b3,b4))) Nc (hid (fun x1 x2 x3 x4 w' hb'=>Ce w.heap.size x1 x2 x3 x4 b1 b2 b3 b4 w' (keepCell hb' c0) (keepCell hb' c1) (keepCell hb' c2) (keepCell hb' c3))) (fun x y q=>IE q));have HB:=hid hb;clear h hW c0 c1 c2 c3 hb;generalize hR:mD (sK T) (fun x=>dY x ((b1,b2),(b3,b4)))=R;have HI:Hid (Calls Tryz.prog 143 #[.pointer (pA g),.func (.func 144) #[] #[.pointer (some ⟨w.heap.size,0,none⟩)]] W (fun e w'=>∃ A n c,e = .returned (.slice A n c)∧dN bJ w' A n c R∧(∀ b off,A=some ⟨b,off,none⟩→W.heap.size≤b)∧Below W.heap.size W w')):=by rw [← hR];exact HI.out
 show Calls _ _ _ _ (fun e w'=>∃ A n c,e = .returned (.slice A n c)∧dN bJ w' A n c (mD (sK T) (fun x=>dY x ((b1,b2),(b3,b4))))∧(∀ b off,A=some ⟨b,off,none⟩→w.heap.size≤b)∧Below w.heap.size w w');rw [hR];clear hR
 go_enter Tryz.func84,Tryz.ntmps84
 go_upto_region 1 with fail
 rw [← hWw];clear hWw
 go_wp2_with fail
 refine HI.out.mono ?_;rintro e w2 ⟨A9,n9,c9,rfl,hsl,hfr,hb2⟩;have HFIN:Hid (dN bJ w2 A9 n9 c9 R∧(∀ b off,A9=some ⟨b,off,none⟩→w.heap.size≤b)∧Below w.heap.size w w2):=⟨hsl,fun b off e=>Nat.le_trans HB.out.size (hfr b off e),aj hb2 HB.out⟩;clear HI hsl hfr hb2 HB;go_wp2
 go_returns
 exact ⟨A9,n9,c9,rfl,HFIN.out.1,HFIN.out.2.1,HFIN.out.2.2⟩
end
end Go.Proofs.YtokgmcomgflloaaGreat
