/- Parts of a proof: contracts and laws. -/
import Derived.Test.YtokgmcomgflloaaGreatQP41
import Derived.Test.YtokgmcomgflloaaGreatQP03
set_option maxRecDepth 100000
set_option maxHeartbeats 16000000
namespace Go.Proofs.YtokgmcomgflloaaGreat
section
set_option linter.unusedVariables false
set_option linter.unusedSimpArgs false
open Go.RowKit
theorem TB.tr_ht (q:Nat) (c d:TB):(TB.nd q c d).tr.ht=1+max c.tr.ht d.tr.ht:=rfl
theorem yw {w : World} {g : Nat} {s : TS} (h : Mem w g s) {u q : Nat} {l c d : TB} {up : Option Addr} {C : List dI} (hR : (TB.nd u l (.nd q c d)).Rp s up) (hC : nR s C up u) (hCd : (iX C).Nodup)
  (hd:(u :: q :: (l.blocks ++ (c.blocks ++ d.blocks))).Nodup) (hdis:∀ k ∈ (u :: q :: (l.blocks ++ (c.blocks ++ d.blocks))),k ∉ iX C) (hH:l.tr.ht≤1000∧c.tr.ht≤1000∧d.tr.ht≤1000) (hB:l.tr.ht+1<(TB.nd q c d).tr.ht) :
  Calls Tryz.prog 136 #[.pointer (pA g),.pointer (pA u)] w (mW g u l (.nd q c d) up C s w):=by
 have cu:=h.nd _ _ hR.1;obtain ⟨rl,hrl,-,-,tl⟩:=(hR.2.1).top;have hhi:=hR.2.2;have cq:=h.nd _ _ hhi.1;obtain ⟨rc,hrc,-,-,tc⟩:=hhi.2.1.top;obtain ⟨rd,hrd,-,-,td⟩:=hhi.2.2.top;have hbd:=TB.tr_ht q c d;have U7:w.cell? ⟨u,7,none⟩=some (.pointer (some ⟨l.root,0,none⟩)):=cu.c7;have U8:w.cell? ⟨u,8,none⟩=some (.pointer (some ⟨q,0,none⟩)):=cu.c8;have L5:w.cell? ⟨l.root,5,none⟩=some (.int .i64 ((l.tr.ht:Nat):Int)):=by rw [(h.nd _ _ hrl).c5,tl]
 have R5:w.cell? ⟨q,5,none⟩=some (.int .i64 (((TB.nd q c d).tr.ht:Nat):Int)):=cq.c5;have Q7:w.cell? ⟨q,7,none⟩=some (.pointer (some ⟨c.root,0,none⟩)):=cq.c7;have Q8:w.cell? ⟨q,8,none⟩=some (.pointer (some ⟨d.root,0,none⟩)):=cq.c8;have C5:w.cell? ⟨c.root,5,none⟩=some (.int .i64 ((c.tr.ht:Nat):Int)):=by rw [(h.nd _ _ hrc).c5,tc]
 have D5:w.cell? ⟨d.root,5,none⟩=some (.int .i64 ((d.tr.ht:Nat):Int)):=by rw [(h.nd _ _ hrd).c5,td]
 have lu:=lt_of_cell U7;have ll:=lt_of_cell L5;have lq:=lt_of_cell Q7;have lc:=lt_of_cell C5;have ld:=lt_of_cell D5;have nuq:u≠q:=fun e=>(List.nodup_cons.1 hd).1 (by rw [e];simp)
 have HPL0 : Hid (∀ (stay moves : TB), eX u l (.nd q c d) = TB.nd q stay (TB.nd u l moves) → (∀ k, k ∈ (u :: q :: (l.blocks ++ (stay.blocks ++ moves.blocks))) ↔ k ∈ (u :: q :: (l.blocks ++ (c.blocks ++ d.blocks)))) → stay.Rp s (pA q) → moves.Rp s (pA q) → (u :: q :: (l.blocks ++ (stay.blocks ++ moves.blocks))).Nodup → stay.tr.ht ≤ 1000 → moves.tr.ht ≤ 1000 →
   ∀ w',Below w.heap.size w w'→Calls Tryz.prog 70 #[.pointer (pA g),.pointer (pA u),.pointer (pA q)] w' (fun e w1=>e = .returned (.tuple #[])∧Calls Tryz.prog 71 #[.pointer (pA u),.pointer (pA l.root),.pointer (pA moves.root)] w1 (fun e w2=>e = .returned (.tuple #[]) ∧
   Calls Tryz.prog 71 #[.pointer (pA q),.pointer (pA stay.root),.pointer (pA u)] w2 (fun e w3=>e = .returned (.tuple #[])∧mW g u l (.nd q c d) up C s w (.returned (.pointer (pA q))) w3)))):=by
  intro stay moves hbal hblk hs hm hnd b2 b3 w' hb;refine (rX (h.below hb) hC hCd hR.1 rfl hhi.1 nuq (hdis u (by simp)) (hdis q (by simp))).mono ?_;rintro e w1 ⟨s1,rfl,m1,o1,cx1,hq1,pk1,in1⟩;refine ⟨rfl,?_⟩;exact zo hbal (fun k=>(hblk k).trans (by simp only [TB.blocks,List.mem_cons,List.mem_append];grind)) hR.1 rfl rfl (hR.2.1) hs hm hnd (fun k hk=>hdis k ((hblk k).1 hk)) hH.1 b2 b3 m1 ((Out.below hb).trans o1 (fun i _ k=>k)) cx1 hq1 pk1 in1
 have hbalc:¬ d.tr.ht > c.tr.ht→eX u l (.nd q c d)=TB.nd q c (TB.nd u l d):=fun hn=>by
  unfold eX;rw [if_neg (by omega),if_neg (by omega)];show (if d.tr.ht > c.tr.ht then _ else _)=_;rw [if_neg hn]
 have hbald:d.tr.ht > c.tr.ht→eX u l (.nd q c d)=TB.nd q d (TB.nd u l c):=fun hn=>by
  unfold eX;rw [if_neg (by omega),if_neg (by omega)];show (if d.tr.ht > c.tr.ht then _ else _)=_;rw [if_pos hn]
 have HPLc:Hid (¬ d.tr.ht > c.tr.ht→_):=hid (fun hn=>HPL0.out c d (hbalc hn) (fun k=>Iff.rfl) hhi.2.1 hhi.2.2 hd hH.2.1 hH.2.2)
 have HPLd:Hid (d.tr.ht > c.tr.ht→_):=hid (fun hn=>HPL0.out d c (hbald hn) (fun k=>by simp only [List.mem_cons,List.mem_append];grind) hhi.2.2 hhi.2.1 (by
  refine (List.Perm.nodup_iff ?_).1 hd;refine List.perm_iff_count.2 fun a=>?_
  simp only [List.count_cons,List.count_append];omega) hH.2.2 hH.2.1)
 clear HPL0 hbalc hbald;obtain ⟨hl,hhl⟩:∃ z,z=((l.tr.ht:Nat):Int):=⟨_,rfl⟩;obtain ⟨hr,hhr⟩:∃ z,z=(((TB.nd q c d).tr.ht:Nat):Int):=⟨_,rfl⟩;obtain ⟨hc,hhc⟩:∃ z,z=((c.tr.ht:Nat):Int):=⟨_,rfl⟩;obtain ⟨hdd,hhd⟩:∃ z,z=((d.tr.ht:Nat):Int):=⟨_,rfl⟩;rw [← hhl] at L5;rw [← hhr] at R5;rw [← hhc] at C5;rw [← hhd] at D5;obtain ⟨lb,hlb⟩:∃ b,b=l.root:=⟨_,rfl⟩;obtain ⟨cb,hcb⟩:∃ b,b=c.root:=⟨_,rfl⟩;obtain ⟨db,hdb⟩:∃ b,b=d.root:=⟨_,rfl⟩;obtain ⟨rb,hqb⟩:∃ b,b=q:=⟨_,rfl⟩;rw [← hlb] at U7 L5 ll HPLc HPLd;rw [← hcb] at Q7 C5 lc HPLc HPLd;rw [← hdb] at Q8 D5 ld HPLc HPLd;rw [← hqb] at U8 R5 Q7 Q8 lq;have w1:IntKind.i64.wrap (hl+1)=hl+1:=IntWalk.i64_in _ (by omega);have hgt:¬ hl > hr:=by omega
 have hle:¬ hr≤hl+1:=by omega
 by_cases h2:d.tr.ht > c.tr.ht
 ·have HPL := hid (HPLd.out h2);have hg2:hdd > hc:=by omega
  rw [← hqb] at HPL;have HQB:=hid hqb;clear h hR hC hCd hd hdis hH hB cu hrl tl hhi cq hrc tc hrd td hbd nuq HPLc HPLd hlb hcb hdb hqb hhl hhr hhc hhd h2
  go_enter Tryz.func136,Tryz.ntmps136
  go_upto_region 1 with fail
  refine wp_region_noPanic ?_;refine au (S:=(S2 (fun w'=>w'.cell? ⟨u,7,none⟩=some (.pointer (some ⟨lb,0,none⟩))∧w'.cell? ⟨u,8,none⟩=some (.pointer (some ⟨rb,0,none⟩))))) (T:=(fun _=>0)) (by kernel_rfl) (aK ⟨by exact U7,by exact U8⟩) (fun hH=>?_);have hWr7:aG (S2 (fun w'=>w'.cell? ⟨u,7,none⟩=some (.pointer (some ⟨lb,0,none⟩))∧w'.cell? ⟨u,8,none⟩=some (.pointer (some ⟨rb,0,none⟩)))):=aI _;refine dG [(0,9),(1,10),(2,11),(3,12),(4,13),(5,14),(6,15),(7,16),(8,17),(9,18),(10,5),(11,6)] 0 0 0 (L':=?Lr7_1) hWr7 hH ?yr7_1 ?_
  case yr7_1=>((iterate 12 apply dF;rfl;kernel_rfl;intro w' hSw;replace hSw:=aB hSw;(try dsimp only at hSw);have q0:=hSw.1;have q1:=hSw.2;(try simp only [sB,sC]);go_simp;(try with_reducible rfl));exact dD)
  simp only [sB,sC];refine ak (by kernel_rfl) ?_ _ _;refine NoPanic.normal ?_;clear hWr7;clear hH
  go_upto_region 2 with fail
  refine wp_region_noPanic ?_;refine au (S:=(S2 (fun w'=>w'.cell? ⟨lb,5,none⟩=some (.int .i64 hl)∧w'.cell? ⟨rb,5,none⟩=some (.int .i64 hr)))) (T:=(fun _=>0)) (by kernel_rfl) (aK ⟨by exact L5,by exact R5⟩) (fun hH=>?_);have hWr8:aG (S2 (fun w'=>w'.cell? ⟨lb,5,none⟩=some (.int .i64 hl)∧w'.cell? ⟨rb,5,none⟩=some (.int .i64 hr))):=aI _;refine dG [(0,19),(1,20),(2,21),(3,22),(4,23),(5,24),(6,25),(7,26),(8,27)] 0 0 0 (L':=?Lr8_1) hWr8 hH ?yr8_1 ?_
  case yr8_1=>((iterate 9 apply dF;rfl;kernel_rfl;intro w' hSw;replace hSw:=aB hSw;(try dsimp only at hSw);have q0:=hSw.1;have q1:=hSw.2;(try simp only [sB,sC]);go_simp;(try with_reducible rfl));exact dD)
  simp only [sB,sC];refine ak (by kernel_rfl) ?_ _ _;refine NoPanic.normal ?_;clear hWr8;clear hH
  go_upto_region 4 with fail
  refine wp_region_noPanic ?_;refine au (S:=(S2 (fun w'=>w'.cell? ⟨rb,5,none⟩=some (.int .i64 hr)∧w'.cell? ⟨lb,5,none⟩=some (.int .i64 hl)))) (T:=(fun _=>0)) (by kernel_rfl) (aK ⟨by exact R5,by exact L5⟩) (fun hH=>?_);have hWr9:aG (S2 (fun w'=>w'.cell? ⟨rb,5,none⟩=some (.int .i64 hr)∧w'.cell? ⟨lb,5,none⟩=some (.int .i64 hl))):=aI _;refine dG [(0,30),(1,31),(2,32),(3,33),(4,34),(5,35),(6,36),(7,37),(8,38),(9,39)] 0 0 0 (L':=?Lr9_1) hWr9 hH ?yr9_1 ?_
  case yr9_1=>((iterate 10 apply dF;rfl;kernel_rfl;intro w' hSw;replace hSw:=aB hSw;(try dsimp only at hSw);have q0:=hSw.1;have q1:=hSw.2;(try simp only [sB,sC]);go_simp;(try with_reducible rfl));exact dD)
  simp only [sB,sC];refine ak (by kernel_rfl) ?_ _ _;refine NoPanic.normal ?_;clear hWr9;clear hH
  go_upto_region 6 with fail
  refine wp_region_noPanic ?_;refine au (S:=(S2 (fun w'=>w'.cell? ⟨rb,7,none⟩=some (.pointer (some ⟨cb,0,none⟩))∧w'.cell? ⟨rb,8,none⟩=some (.pointer (some ⟨db,0,none⟩))))) (T:=(fun _=>0)) (by kernel_rfl) (aK ⟨by exact Q7,by exact Q8⟩) (fun hH=>?_);have hWr10:aG (S2 (fun w'=>w'.cell? ⟨rb,7,none⟩=some (.pointer (some ⟨cb,0,none⟩))∧w'.cell? ⟨rb,8,none⟩=some (.pointer (some ⟨db,0,none⟩)))):=aI _;refine dG [(0,41),(1,42),(2,43),(3,44),(4,45),(5,46),(6,47),(7,48),(8,49),(9,50),(10,7),(11,8)] 0 0 0 (L':=?Lr10_1) hWr10 hH ?yr10_1 ?_
  case yr10_1=>((iterate 12 apply dF;rfl;kernel_rfl;intro w' hSw;replace hSw:=aB hSw;(try dsimp only at hSw);have q0:=hSw.1;have q1:=hSw.2;(try simp only [sB,sC]);go_simp;(try with_reducible rfl));exact dD)
  simp only [sB,sC];refine ak (by kernel_rfl) ?_ _ _;refine NoPanic.normal ?_;clear hWr10;clear hH
  go_upto_region 7 with fail
  refine wp_region_noPanic ?_;refine au (S:=(S2 (fun w'=>w'.cell? ⟨cb,5,none⟩=some (.int .i64 hc)∧w'.cell? ⟨db,5,none⟩=some (.int .i64 hdd)))) (T:=(fun _=>0)) (by kernel_rfl) (aK ⟨by exact C5,by exact D5⟩) (fun hH=>?_);have hWr11:aG (S2 (fun w'=>w'.cell? ⟨cb,5,none⟩=some (.int .i64 hc)∧w'.cell? ⟨db,5,none⟩=some (.int .i64 hdd))):=aI _;refine dG [(0,51),(1,52),(2,53),(3,54),(4,55),(5,56),(6,57),(7,58),(8,59)] 0 0 0 (L':=?Lr11_1) hWr11 hH ?yr11_1 ?_
  case yr11_1=>((iterate 9 apply dF;rfl;kernel_rfl;intro w' hSw;replace hSw:=aB hSw;(try dsimp only at hSw);have q0:=hSw.1;have q1:=hSw.2;(try simp only [sB,sC]);go_simp;(try with_reducible rfl));exact dD)
  simp only [sB,sC];refine ak (by kernel_rfl) ?_ _ _;refine NoPanic.normal ?_;clear hWr11;clear hH
  go_wp2_with fail
  refine (HPL.out _ (by first | exact Below.refl _ _ | exact (Below.refl _ _).drew | exact (Below.refl _ _).drew.drew | exact (Below.refl _ _).drew.drew.drew | exact (Below.refl _ _).drew.drew.drew.drew | exact (Below.refl _ _).drew.drew.drew.drew.drew | exact (Below.refl _ _).drew.drew.drew.drew.drew.drew)).mono ?_;rintro e w1 ⟨rfl,htl⟩;have HTL:=hid htl;clear htl HPL
  go_wp2_with fail
  refine HTL.out.mono ?_;rintro e w2 ⟨rfl,hc2⟩;have HC2:=hid hc2;clear hc2 HTL
  go_wp2_with fail
  refine HC2.out.mono ?_;rintro e w3 ⟨rfl,hret⟩;have HRET:=hid hret;clear hret HC2;go_wp2
  go_returns
  have hqe:=HQB.out;subst hqe;exact HRET.out
 ·have HPL := hid (HPLc.out h2);have hg2:¬ hdd > hc:=by omega
  rw [← hqb] at HPL;have HQB:=hid hqb;clear h hR hC hCd hd hdis hH hB cu hrl tl hhi cq hrc tc hrd td hbd nuq HPLc HPLd hlb hcb hdb hqb hhl hhr hhc hhd h2
  go_enter Tryz.func136,Tryz.ntmps136
  go_upto_region 1 with fail
  refine wp_region_noPanic ?_;refine au (S:=(S2 (fun w'=>w'.cell? ⟨u,7,none⟩=some (.pointer (some ⟨lb,0,none⟩))∧w'.cell? ⟨u,8,none⟩=some (.pointer (some ⟨rb,0,none⟩))))) (T:=(fun _=>0)) (by kernel_rfl) (aK ⟨by exact U7,by exact U8⟩) (fun hH=>?_);have hWr12:aG (S2 (fun w'=>w'.cell? ⟨u,7,none⟩=some (.pointer (some ⟨lb,0,none⟩))∧w'.cell? ⟨u,8,none⟩=some (.pointer (some ⟨rb,0,none⟩)))):=aI _;refine dG [(0,9),(1,10),(2,11),(3,12),(4,13),(5,14),(6,15),(7,16),(8,17),(9,18),(10,5),(11,6)] 0 0 0 (L':=?Lr12_1) hWr12 hH ?yr12_1 ?_
  case yr12_1=>((iterate 12 apply dF;rfl;kernel_rfl;intro w' hSw;replace hSw:=aB hSw;(try dsimp only at hSw);have q0:=hSw.1;have q1:=hSw.2;(try simp only [sB,sC]);go_simp;(try with_reducible rfl));exact dD)
  simp only [sB,sC];refine ak (by kernel_rfl) ?_ _ _;refine NoPanic.normal ?_;clear hWr12;clear hH
  go_upto_region 2 with fail
  refine wp_region_noPanic ?_;refine au (S:=(S2 (fun w'=>w'.cell? ⟨lb,5,none⟩=some (.int .i64 hl)∧w'.cell? ⟨rb,5,none⟩=some (.int .i64 hr)))) (T:=(fun _=>0)) (by kernel_rfl) (aK ⟨by exact L5,by exact R5⟩) (fun hH=>?_);have hWr13:aG (S2 (fun w'=>w'.cell? ⟨lb,5,none⟩=some (.int .i64 hl)∧w'.cell? ⟨rb,5,none⟩=some (.int .i64 hr))):=aI _;refine dG [(0,19),(1,20),(2,21),(3,22),(4,23),(5,24),(6,25),(7,26),(8,27)] 0 0 0 (L':=?Lr13_1) hWr13 hH ?yr13_1 ?_
  case yr13_1=>((iterate 9 apply dF;rfl;kernel_rfl;intro w' hSw;replace hSw:=aB hSw;(try dsimp only at hSw);have q0:=hSw.1;have q1:=hSw.2;(try simp only [sB,sC]);go_simp;(try with_reducible rfl));exact dD)
  simp only [sB,sC];refine ak (by kernel_rfl) ?_ _ _;refine NoPanic.normal ?_;clear hWr13;clear hH
  go_upto_region 4 with fail
  refine wp_region_noPanic ?_;refine au (S:=(S2 (fun w'=>w'.cell? ⟨rb,5,none⟩=some (.int .i64 hr)∧w'.cell? ⟨lb,5,none⟩=some (.int .i64 hl)))) (T:=(fun _=>0)) (by kernel_rfl) (aK ⟨by exact R5,by exact L5⟩) (fun hH=>?_);have hWr14:aG (S2 (fun w'=>w'.cell? ⟨rb,5,none⟩=some (.int .i64 hr)∧w'.cell? ⟨lb,5,none⟩=some (.int .i64 hl))):=aI _;refine dG [(0,30),(1,31),(2,32),(3,33),(4,34),(5,35),(6,36),(7,37),(8,38),(9,39)] 0 0 0 (L':=?Lr14_1) hWr14 hH ?yr14_1 ?_
  case yr14_1=>((iterate 10 apply dF;rfl;kernel_rfl;intro w' hSw;replace hSw:=aB hSw;(try dsimp only at hSw);have q0:=hSw.1;have q1:=hSw.2;(try simp only [sB,sC]);go_simp;(try with_reducible rfl));exact dD)
  simp only [sB,sC];refine ak (by kernel_rfl) ?_ _ _;refine NoPanic.normal ?_;clear hWr14;clear hH
  go_upto_region 6 with fail
  refine wp_region_noPanic ?_;refine au (S:=(S2 (fun w'=>w'.cell? ⟨rb,7,none⟩=some (.pointer (some ⟨cb,0,none⟩))∧w'.cell? ⟨rb,8,none⟩=some (.pointer (some ⟨db,0,none⟩))))) (T:=(fun _=>0)) (by kernel_rfl) (aK ⟨by exact Q7,by exact Q8⟩) (fun hH=>?_);have hWr15:aG (S2 (fun w'=>w'.cell? ⟨rb,7,none⟩=some (.pointer (some ⟨cb,0,none⟩))∧w'.cell? ⟨rb,8,none⟩=some (.pointer (some ⟨db,0,none⟩)))):=aI _;refine dG [(0,41),(1,42),(2,43),(3,44),(4,45),(5,46),(6,47),(7,48),(8,49),(9,50),(10,7),(11,8)] 0 0 0 (L':=?Lr15_1) hWr15 hH ?yr15_1 ?_
  case yr15_1=>((iterate 12 apply dF;rfl;kernel_rfl;intro w' hSw;replace hSw:=aB hSw;(try dsimp only at hSw);have q0:=hSw.1;have q1:=hSw.2;(try simp only [sB,sC]);go_simp;(try with_reducible rfl));exact dD)
  simp only [sB,sC];refine ak (by kernel_rfl) ?_ _ _;refine NoPanic.normal ?_;clear hWr15;clear hH
  go_upto_region 7 with fail
  refine wp_region_noPanic ?_;refine au (S:=(S2 (fun w'=>w'.cell? ⟨cb,5,none⟩=some (.int .i64 hc)∧w'.cell? ⟨db,5,none⟩=some (.int .i64 hdd)))) (T:=(fun _=>0)) (by kernel_rfl) (aK ⟨by exact C5,by exact D5⟩) (fun hH=>?_);have hWr16:aG (S2 (fun w'=>w'.cell? ⟨cb,5,none⟩=some (.int .i64 hc)∧w'.cell? ⟨db,5,none⟩=some (.int .i64 hdd))):=aI _;refine dG [(0,51),(1,52),(2,53),(3,54),(4,55),(5,56),(6,57),(7,58),(8,59)] 0 0 0 (L':=?Lr16_1) hWr16 hH ?yr16_1 ?_
  case yr16_1=>((iterate 9 apply dF;rfl;kernel_rfl;intro w' hSw;replace hSw:=aB hSw;(try dsimp only at hSw);have q0:=hSw.1;have q1:=hSw.2;(try simp only [sB,sC]);go_simp;(try with_reducible rfl));exact dD)
  simp only [sB,sC];refine ak (by kernel_rfl) ?_ _ _;refine NoPanic.normal ?_;clear hWr16;clear hH
  go_wp2_with fail
  refine (HPL.out _ (by first | exact Below.refl _ _ | exact (Below.refl _ _).drew | exact (Below.refl _ _).drew.drew | exact (Below.refl _ _).drew.drew.drew | exact (Below.refl _ _).drew.drew.drew.drew | exact (Below.refl _ _).drew.drew.drew.drew.drew | exact (Below.refl _ _).drew.drew.drew.drew.drew.drew)).mono ?_;rintro e w1 ⟨rfl,htl⟩;have HTL:=hid htl;clear htl HPL
  go_wp2_with fail
  refine HTL.out.mono ?_;rintro e w2 ⟨rfl,hc2⟩;have HC2:=hid hc2;clear hc2 HTL
  go_wp2_with fail
  refine HC2.out.mono ?_;rintro e w3 ⟨rfl,hret⟩;have HRET:=hid hret;clear hret HC2;go_wp2
  go_returns
  have hqe:=HQB.out;subst hqe;exact HRET.out
theorem yK {w : World} {g : Nat} {s : TS} (h : Mem w g s) {u q : Nat} {r c d : TB} {up : Option Addr} {C : List dI} (hR : (TB.nd u (.nd q c d) r).Rp s up) (hC : nR s C up u) (hCd : (iX C).Nodup)
  (hd:(u :: q :: (r.blocks ++ (c.blocks ++ d.blocks))).Nodup) (hdis:∀ k ∈ (u :: q :: (r.blocks ++ (c.blocks ++ d.blocks))),k ∉ iX C) (hH:r.tr.ht≤1000∧c.tr.ht≤1000∧d.tr.ht≤1000) (hB:r.tr.ht+1<(TB.nd q c d).tr.ht) :
  Calls Tryz.prog 136 #[.pointer (pA g),.pointer (pA u)] w (mW g u (.nd q c d) r up C s w):=by
 have cu:=h.nd _ _ hR.1;obtain ⟨rl,hrl,-,-,tl⟩:=(hR.2.2).top;have hhi:=hR.2.1;have cq:=h.nd _ _ hhi.1;obtain ⟨rc,hrc,-,-,tc⟩:=hhi.2.1.top;obtain ⟨rd,hrd,-,-,td⟩:=hhi.2.2.top;have hbd:=TB.tr_ht q c d;have U8:w.cell? ⟨u,8,none⟩=some (.pointer (some ⟨r.root,0,none⟩)):=cu.c8;have U7:w.cell? ⟨u,7,none⟩=some (.pointer (some ⟨q,0,none⟩)):=cu.c7;have R5:w.cell? ⟨r.root,5,none⟩=some (.int .i64 ((r.tr.ht:Nat):Int)):=by rw [(h.nd _ _ hrl).c5,tl]
 have L5:w.cell? ⟨q,5,none⟩=some (.int .i64 (((TB.nd q c d).tr.ht:Nat):Int)):=cq.c5;have Q7:w.cell? ⟨q,7,none⟩=some (.pointer (some ⟨c.root,0,none⟩)):=cq.c7;have Q8:w.cell? ⟨q,8,none⟩=some (.pointer (some ⟨d.root,0,none⟩)):=cq.c8;have C5:w.cell? ⟨c.root,5,none⟩=some (.int .i64 ((c.tr.ht:Nat):Int)):=by rw [(h.nd _ _ hrc).c5,tc]
 have D5:w.cell? ⟨d.root,5,none⟩=some (.int .i64 ((d.tr.ht:Nat):Int)):=by rw [(h.nd _ _ hrd).c5,td]
 have lu:=lt_of_cell U7;have ll:=lt_of_cell R5;have lq:=lt_of_cell Q7;have lc:=lt_of_cell C5;have ld:=lt_of_cell D5;have nuq:u≠q:=fun e=>(List.nodup_cons.1 hd).1 (by rw [e];simp)
 have HPL0 : Hid (∀ (stay moves : TB), eX u (.nd q c d) r = TB.nd q stay (TB.nd u r moves) → (∀ k, k ∈ (u :: q :: (r.blocks ++ (stay.blocks ++ moves.blocks))) ↔ k ∈ (u :: q :: (r.blocks ++ (c.blocks ++ d.blocks)))) → stay.Rp s (pA q) → moves.Rp s (pA q) → (u :: q :: (r.blocks ++ (stay.blocks ++ moves.blocks))).Nodup → stay.tr.ht ≤ 1000 → moves.tr.ht ≤ 1000 →
   ∀ w',Below w.heap.size w w'→Calls Tryz.prog 70 #[.pointer (pA g),.pointer (pA u),.pointer (pA q)] w' (fun e w1=>e = .returned (.tuple #[])∧Calls Tryz.prog 71 #[.pointer (pA u),.pointer (pA r.root),.pointer (pA moves.root)] w1 (fun e w2=>e = .returned (.tuple #[]) ∧
   Calls Tryz.prog 71 #[.pointer (pA q),.pointer (pA stay.root),.pointer (pA u)] w2 (fun e w3=>e = .returned (.tuple #[])∧mW g u (.nd q c d) r up C s w (.returned (.pointer (pA q))) w3)))):=by
  intro stay moves hbal hblk hs hm hnd b2 b3 w' hb;refine (rX (h.below hb) hC hCd hR.1 rfl hhi.1 nuq (hdis u (by simp)) (hdis q (by simp))).mono ?_;rintro e w1 ⟨s1,rfl,m1,o1,cx1,hq1,pk1,in1⟩;refine ⟨rfl,?_⟩;exact zo hbal (fun k=>(hblk k).trans (by simp only [TB.blocks,List.mem_cons,List.mem_append];grind)) hR.1 rfl rfl (hR.2.2) hs hm hnd (fun k hk=>hdis k ((hblk k).1 hk)) hH.1 b2 b3 m1 ((Out.below hb).trans o1 (fun i _ k=>k)) cx1 hq1 pk1 in1
 have hbalc:¬ d.tr.ht > c.tr.ht→eX u (.nd q c d) r=TB.nd q c (TB.nd u r d):=fun hn=>by
  unfold eX;rw [if_pos (by omega),if_neg (by omega)];show (if d.tr.ht > c.tr.ht then _ else _)=_;rw [if_neg hn]
 have hbald:d.tr.ht > c.tr.ht→eX u (.nd q c d) r=TB.nd q d (TB.nd u r c):=fun hn=>by
  unfold eX;rw [if_pos (by omega),if_neg (by omega)];show (if d.tr.ht > c.tr.ht then _ else _)=_;rw [if_pos hn]
 have HPLc:Hid (¬ d.tr.ht > c.tr.ht→_):=hid (fun hn=>HPL0.out c d (hbalc hn) (fun k=>Iff.rfl) hhi.2.1 hhi.2.2 hd hH.2.1 hH.2.2)
 have HPLd:Hid (d.tr.ht > c.tr.ht→_):=hid (fun hn=>HPL0.out d c (hbald hn) (fun k=>by simp only [List.mem_cons,List.mem_append];grind) hhi.2.2 hhi.2.1 (by
  refine (List.Perm.nodup_iff ?_).1 hd;refine List.perm_iff_count.2 fun a=>?_
  simp only [List.count_cons,List.count_append];omega) hH.2.2 hH.2.1)
 clear HPL0 hbalc hbald;obtain ⟨hr,hhl⟩:∃ z,z=((r.tr.ht:Nat):Int):=⟨_,rfl⟩;obtain ⟨hl,hhr⟩:∃ z,z=(((TB.nd q c d).tr.ht:Nat):Int):=⟨_,rfl⟩;obtain ⟨hc,hhc⟩:∃ z,z=((c.tr.ht:Nat):Int):=⟨_,rfl⟩;obtain ⟨hdd,hhd⟩:∃ z,z=((d.tr.ht:Nat):Int):=⟨_,rfl⟩;rw [← hhl] at R5;rw [← hhr] at L5;rw [← hhc] at C5;rw [← hhd] at D5;obtain ⟨rb,hlb⟩:∃ b,b=r.root:=⟨_,rfl⟩;obtain ⟨cb,hcb⟩:∃ b,b=c.root:=⟨_,rfl⟩;obtain ⟨db,hdb⟩:∃ b,b=d.root:=⟨_,rfl⟩;obtain ⟨lb,hqb⟩:∃ b,b=q:=⟨_,rfl⟩;rw [← hlb] at U8 R5 ll HPLc HPLd;rw [← hcb] at Q7 C5 lc HPLc HPLd;rw [← hdb] at Q8 D5 ld HPLc HPLd;rw [← hqb] at U7 L5 Q7 Q8 lq;have w1:IntKind.i64.wrap (hr+1)=hr+1:=IntWalk.i64_in _ (by omega);have hgt:hl > hr:=by omega
 have hle:¬ hl≤hr+1:=by omega
 by_cases h2:d.tr.ht > c.tr.ht
 ·have HPL := hid (HPLd.out h2);have hg2:hdd > hc:=by omega
  rw [← hqb] at HPL;have HQB:=hid hqb;clear h hR hC hCd hd hdis hH hB cu hrl tl hhi cq hrc tc hrd td hbd nuq HPLc HPLd hlb hcb hdb hqb hhl hhr hhc hhd h2
  go_enter Tryz.func136,Tryz.ntmps136
  go_upto_region 1 with fail
  refine wp_region_noPanic ?_;refine au (S:=(S2 (fun w'=>w'.cell? ⟨u,7,none⟩=some (.pointer (some ⟨lb,0,none⟩))∧w'.cell? ⟨u,8,none⟩=some (.pointer (some ⟨rb,0,none⟩))))) (T:=(fun _=>0)) (by kernel_rfl) (aK ⟨by exact U7,by exact U8⟩) (fun hH=>?_);have hWr17:aG (S2 (fun w'=>w'.cell? ⟨u,7,none⟩=some (.pointer (some ⟨lb,0,none⟩))∧w'.cell? ⟨u,8,none⟩=some (.pointer (some ⟨rb,0,none⟩)))):=aI _;refine dG [(0,9),(1,10),(2,11),(3,12),(4,13),(5,14),(6,15),(7,16),(8,17),(9,18),(10,5),(11,6)] 0 0 0 (L':=?Lr17_1) hWr17 hH ?yr17_1 ?_
  case yr17_1=>((iterate 12 apply dF;rfl;kernel_rfl;intro w' hSw;replace hSw:=aB hSw;(try dsimp only at hSw);have q0:=hSw.1;have q1:=hSw.2;(try simp only [sB,sC]);go_simp;(try with_reducible rfl));exact dD)
  simp only [sB,sC];refine ak (by kernel_rfl) ?_ _ _;refine NoPanic.normal ?_;clear hWr17;clear hH
  go_upto_region 2 with fail
  refine wp_region_noPanic ?_;refine au (S:=(S2 (fun w'=>w'.cell? ⟨lb,5,none⟩=some (.int .i64 hl)∧w'.cell? ⟨rb,5,none⟩=some (.int .i64 hr)))) (T:=(fun _=>0)) (by kernel_rfl) (aK ⟨by exact L5,by exact R5⟩) (fun hH=>?_);have hWr18:aG (S2 (fun w'=>w'.cell? ⟨lb,5,none⟩=some (.int .i64 hl)∧w'.cell? ⟨rb,5,none⟩=some (.int .i64 hr))):=aI _;refine dG [(0,19),(1,20),(2,21),(3,22),(4,23),(5,24),(6,25),(7,26),(8,27)] 0 0 0 (L':=?Lr18_1) hWr18 hH ?yr18_1 ?_
  case yr18_1=>((iterate 9 apply dF;rfl;kernel_rfl;intro w' hSw;replace hSw:=aB hSw;(try dsimp only at hSw);have q0:=hSw.1;have q1:=hSw.2;(try simp only [sB,sC]);go_simp;(try with_reducible rfl));exact dD)
  simp only [sB,sC];refine ak (by kernel_rfl) ?_ _ _;refine NoPanic.normal ?_;clear hWr18;clear hH
  go_upto_region 4 with fail
  refine wp_region_noPanic ?_;refine au (S:=(S2 (fun w'=>w'.cell? ⟨lb,5,none⟩=some (.int .i64 hl)∧w'.cell? ⟨rb,5,none⟩=some (.int .i64 hr)))) (T:=(fun _=>0)) (by kernel_rfl) (aK ⟨by exact L5,by exact R5⟩) (fun hH=>?_);have hWr19:aG (S2 (fun w'=>w'.cell? ⟨lb,5,none⟩=some (.int .i64 hl)∧w'.cell? ⟨rb,5,none⟩=some (.int .i64 hr))):=aI _;refine dG [(0,30),(1,31),(2,32),(3,33),(4,34),(5,35),(6,36),(7,37),(8,38),(9,39)] 0 0 0 (L':=?Lr19_1) hWr19 hH ?yr19_1 ?_
  case yr19_1=>((iterate 10 apply dF;rfl;kernel_rfl;intro w' hSw;replace hSw:=aB hSw;(try dsimp only at hSw);have q0:=hSw.1;have q1:=hSw.2;(try simp only [sB,sC]);go_simp;(try with_reducible rfl));exact dD)
  simp only [sB,sC];refine ak (by kernel_rfl) ?_ _ _;refine NoPanic.normal ?_;clear hWr19;clear hH
  go_upto_region 6 with fail
  refine wp_region_noPanic ?_;refine au (S:=(S2 (fun w'=>w'.cell? ⟨lb,7,none⟩=some (.pointer (some ⟨cb,0,none⟩))∧w'.cell? ⟨lb,8,none⟩=some (.pointer (some ⟨db,0,none⟩))))) (T:=(fun _=>0)) (by kernel_rfl) (aK ⟨by exact Q7,by exact Q8⟩) (fun hH=>?_);have hWr20:aG (S2 (fun w'=>w'.cell? ⟨lb,7,none⟩=some (.pointer (some ⟨cb,0,none⟩))∧w'.cell? ⟨lb,8,none⟩=some (.pointer (some ⟨db,0,none⟩)))):=aI _;refine dG [(0,41),(1,42),(2,43),(3,44),(4,45),(5,46),(6,47),(7,48),(8,49),(9,50),(10,7),(11,8)] 0 0 0 (L':=?Lr20_1) hWr20 hH ?yr20_1 ?_
  case yr20_1=>((iterate 12 apply dF;rfl;kernel_rfl;intro w' hSw;replace hSw:=aB hSw;(try dsimp only at hSw);have q0:=hSw.1;have q1:=hSw.2;(try simp only [sB,sC]);go_simp;(try with_reducible rfl));exact dD)
  simp only [sB,sC];refine ak (by kernel_rfl) ?_ _ _;refine NoPanic.normal ?_;clear hWr20;clear hH
  go_upto_region 7 with fail
  refine wp_region_noPanic ?_;refine au (S:=(S2 (fun w'=>w'.cell? ⟨cb,5,none⟩=some (.int .i64 hc)∧w'.cell? ⟨db,5,none⟩=some (.int .i64 hdd)))) (T:=(fun _=>0)) (by kernel_rfl) (aK ⟨by exact C5,by exact D5⟩) (fun hH=>?_);have hWr21:aG (S2 (fun w'=>w'.cell? ⟨cb,5,none⟩=some (.int .i64 hc)∧w'.cell? ⟨db,5,none⟩=some (.int .i64 hdd))):=aI _;refine dG [(0,51),(1,52),(2,53),(3,54),(4,55),(5,56),(6,57),(7,58),(8,59)] 0 0 0 (L':=?Lr21_1) hWr21 hH ?yr21_1 ?_
  case yr21_1=>((iterate 9 apply dF;rfl;kernel_rfl;intro w' hSw;replace hSw:=aB hSw;(try dsimp only at hSw);have q0:=hSw.1;have q1:=hSw.2;(try simp only [sB,sC]);go_simp;(try with_reducible rfl));exact dD)
  simp only [sB,sC];refine ak (by kernel_rfl) ?_ _ _;refine NoPanic.normal ?_;clear hWr21;clear hH
  go_wp2_with fail
  refine (HPL.out _ (by first | exact Below.refl _ _ | exact (Below.refl _ _).drew | exact (Below.refl _ _).drew.drew | exact (Below.refl _ _).drew.drew.drew | exact (Below.refl _ _).drew.drew.drew.drew | exact (Below.refl _ _).drew.drew.drew.drew.drew | exact (Below.refl _ _).drew.drew.drew.drew.drew.drew)).mono ?_;rintro e w1 ⟨rfl,htl⟩;have HTL:=hid htl;clear htl HPL
  go_wp2_with fail
  refine HTL.out.mono ?_;rintro e w2 ⟨rfl,hc2⟩;have HC2:=hid hc2;clear hc2 HTL
  go_wp2_with fail
  refine HC2.out.mono ?_;rintro e w3 ⟨rfl,hret⟩;have HRET:=hid hret;clear hret HC2;go_wp2
  go_returns
  have hqe:=HQB.out;subst hqe;exact HRET.out
 ·have HPL := hid (HPLc.out h2);have hg2:¬ hdd > hc:=by omega
  rw [← hqb] at HPL;have HQB:=hid hqb;clear h hR hC hCd hd hdis hH hB cu hrl tl hhi cq hrc tc hrd td hbd nuq HPLc HPLd hlb hcb hdb hqb hhl hhr hhc hhd h2
  go_enter Tryz.func136,Tryz.ntmps136
  go_upto_region 1 with fail
  refine wp_region_noPanic ?_;refine au (S:=(S2 (fun w'=>w'.cell? ⟨u,7,none⟩=some (.pointer (some ⟨lb,0,none⟩))∧w'.cell? ⟨u,8,none⟩=some (.pointer (some ⟨rb,0,none⟩))))) (T:=(fun _=>0)) (by kernel_rfl) (aK ⟨by exact U7,by exact U8⟩) (fun hH=>?_);have hWr22:aG (S2 (fun w'=>w'.cell? ⟨u,7,none⟩=some (.pointer (some ⟨lb,0,none⟩))∧w'.cell? ⟨u,8,none⟩=some (.pointer (some ⟨rb,0,none⟩)))):=aI _;refine dG [(0,9),(1,10),(2,11),(3,12),(4,13),(5,14),(6,15),(7,16),(8,17),(9,18),(10,5),(11,6)] 0 0 0 (L':=?Lr22_1) hWr22 hH ?yr22_1 ?_
  case yr22_1=>((iterate 12 apply dF;rfl;kernel_rfl;intro w' hSw;replace hSw:=aB hSw;(try dsimp only at hSw);have q0:=hSw.1;have q1:=hSw.2;(try simp only [sB,sC]);go_simp;(try with_reducible rfl));exact dD)
  simp only [sB,sC];refine ak (by kernel_rfl) ?_ _ _;refine NoPanic.normal ?_;clear hWr22;clear hH
  go_upto_region 2 with fail
  refine wp_region_noPanic ?_;refine au (S:=(S2 (fun w'=>w'.cell? ⟨lb,5,none⟩=some (.int .i64 hl)∧w'.cell? ⟨rb,5,none⟩=some (.int .i64 hr)))) (T:=(fun _=>0)) (by kernel_rfl) (aK ⟨by exact L5,by exact R5⟩) (fun hH=>?_);have hWr23:aG (S2 (fun w'=>w'.cell? ⟨lb,5,none⟩=some (.int .i64 hl)∧w'.cell? ⟨rb,5,none⟩=some (.int .i64 hr))):=aI _;refine dG [(0,19),(1,20),(2,21),(3,22),(4,23),(5,24),(6,25),(7,26),(8,27)] 0 0 0 (L':=?Lr23_1) hWr23 hH ?yr23_1 ?_
  case yr23_1=>((iterate 9 apply dF;rfl;kernel_rfl;intro w' hSw;replace hSw:=aB hSw;(try dsimp only at hSw);have q0:=hSw.1;have q1:=hSw.2;(try simp only [sB,sC]);go_simp;(try with_reducible rfl));exact dD)
  simp only [sB,sC];refine ak (by kernel_rfl) ?_ _ _;refine NoPanic.normal ?_;clear hWr23;clear hH
  go_upto_region 4 with fail
  refine wp_region_noPanic ?_;refine au (S:=(S2 (fun w'=>w'.cell? ⟨lb,5,none⟩=some (.int .i64 hl)∧w'.cell? ⟨rb,5,none⟩=some (.int .i64 hr)))) (T:=(fun _=>0)) (by kernel_rfl) (aK ⟨by exact L5,by exact R5⟩) (fun hH=>?_);have hWr24:aG (S2 (fun w'=>w'.cell? ⟨lb,5,none⟩=some (.int .i64 hl)∧w'.cell? ⟨rb,5,none⟩=some (.int .i64 hr))):=aI _;refine dG [(0,30),(1,31),(2,32),(3,33),(4,34),(5,35),(6,36),(7,37),(8,38),(9,39)] 0 0 0 (L':=?Lr24_1) hWr24 hH ?yr24_1 ?_
  case yr24_1=>((iterate 10 apply dF;rfl;kernel_rfl;intro w' hSw;replace hSw:=aB hSw;(try dsimp only at hSw);have q0:=hSw.1;have q1:=hSw.2;(try simp only [sB,sC]);go_simp;(try with_reducible rfl));exact dD)
  simp only [sB,sC];refine ak (by kernel_rfl) ?_ _ _;refine NoPanic.normal ?_;clear hWr24;clear hH
  go_upto_region 6 with fail
  refine wp_region_noPanic ?_;refine au (S:=(S2 (fun w'=>w'.cell? ⟨lb,7,none⟩=some (.pointer (some ⟨cb,0,none⟩))∧w'.cell? ⟨lb,8,none⟩=some (.pointer (some ⟨db,0,none⟩))))) (T:=(fun _=>0)) (by kernel_rfl) (aK ⟨by exact Q7,by exact Q8⟩) (fun hH=>?_);have hWr25:aG (S2 (fun w'=>w'.cell? ⟨lb,7,none⟩=some (.pointer (some ⟨cb,0,none⟩))∧w'.cell? ⟨lb,8,none⟩=some (.pointer (some ⟨db,0,none⟩)))):=aI _;refine dG [(0,41),(1,42),(2,43),(3,44),(4,45),(5,46),(6,47),(7,48),(8,49),(9,50),(10,7),(11,8)] 0 0 0 (L':=?Lr25_1) hWr25 hH ?yr25_1 ?_
  case yr25_1=>((iterate 12 apply dF;rfl;kernel_rfl;intro w' hSw;replace hSw:=aB hSw;(try dsimp only at hSw);have q0:=hSw.1;have q1:=hSw.2;(try simp only [sB,sC]);go_simp;(try with_reducible rfl));exact dD)
  simp only [sB,sC];refine ak (by kernel_rfl) ?_ _ _;refine NoPanic.normal ?_;clear hWr25;clear hH
  go_upto_region 7 with fail
  refine wp_region_noPanic ?_;refine au (S:=(S2 (fun w'=>w'.cell? ⟨cb,5,none⟩=some (.int .i64 hc)∧w'.cell? ⟨db,5,none⟩=some (.int .i64 hdd)))) (T:=(fun _=>0)) (by kernel_rfl) (aK ⟨by exact C5,by exact D5⟩) (fun hH=>?_);have hWr26:aG (S2 (fun w'=>w'.cell? ⟨cb,5,none⟩=some (.int .i64 hc)∧w'.cell? ⟨db,5,none⟩=some (.int .i64 hdd))):=aI _;refine dG [(0,51),(1,52),(2,53),(3,54),(4,55),(5,56),(6,57),(7,58),(8,59)] 0 0 0 (L':=?Lr26_1) hWr26 hH ?yr26_1 ?_
  case yr26_1=>((iterate 9 apply dF;rfl;kernel_rfl;intro w' hSw;replace hSw:=aB hSw;(try dsimp only at hSw);have q0:=hSw.1;have q1:=hSw.2;(try simp only [sB,sC]);go_simp;(try with_reducible rfl));exact dD)
  simp only [sB,sC];refine ak (by kernel_rfl) ?_ _ _;refine NoPanic.normal ?_;clear hWr26;clear hH
  go_wp2_with fail
  refine (HPL.out _ (by first | exact Below.refl _ _ | exact (Below.refl _ _).drew | exact (Below.refl _ _).drew.drew | exact (Below.refl _ _).drew.drew.drew | exact (Below.refl _ _).drew.drew.drew.drew | exact (Below.refl _ _).drew.drew.drew.drew.drew | exact (Below.refl _ _).drew.drew.drew.drew.drew.drew)).mono ?_;rintro e w1 ⟨rfl,htl⟩;have HTL:=hid htl;clear htl HPL
  go_wp2_with fail
  refine HTL.out.mono ?_;rintro e w2 ⟨rfl,hc2⟩;have HC2:=hid hc2;clear hc2 HTL
  go_wp2_with fail
  refine HC2.out.mono ?_;rintro e w3 ⟨rfl,hret⟩;have HRET:=hid hret;clear hret HC2;go_wp2
  go_returns
  have hqe:=HQB.out;subst hqe;exact HRET.out
end
end Go.Proofs.YtokgmcomgflloaaGreat
