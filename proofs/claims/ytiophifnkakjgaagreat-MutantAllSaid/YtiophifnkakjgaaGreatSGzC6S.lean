/-
  Part 19 of the proof: what the machine does and what the functions answer.
  Conditions: those that each lemma names.
-/
import Derived.Shelf.Slices.Delete
import Derived.Test.YtiophifnkakjgaaGreatSGzC6R
set_option linter.unusedSimpArgs false
set_option linter.unusedVariables false
set_option maxRecDepth 100000
set_option maxHeartbeats 20000000
namespace Gv
open Go Go.Proofs
open Go Go.Lib Go.Proofs Go.Shelf Go.RowKit Go.Sort
set_option maxRecDepth 1000000 in
theorem MZ {P:Program} {ρ:Ren} (L:Lays2.n23 P ρ) (blk off cap i j:Nat) (d:Array Int) (w:World) (hH:Holds (Value.int .i64) w blk off d) (hcap:d.size<=cap) (hm:d.size<=9223372036854775807) (hij:i<=j) (hj:j<=d.size):
  Calls P (ρ.f 23) #[.slice (some ⟨blk,off,none⟩) d.size cap,.int .i64 i,.int .i64 j] w λe w'=>e=.returned (.slice (some ⟨blk,off,none⟩) (d.size-(j-i)) cap)/\∃q,w'=putRow (Value.int .i64) (Sort.ahead w q) blk off (d.toList.take i++d.toList.drop j++List.replicate (j-i) 0).toArray:=by
 have mixed:=L.mixed;have t0:=L.t0;have a0:=L.a0;have z0:=L.z0;have v0:=L.v0;have t3:=L.t3;have a3:=L.a3;have z3:=L.z3;have v3:=L.v3;have t4:=L.t4;have a4:=L.a4;have z4:=L.z4;have v4:=L.v4;have t22:=L.t22;have a22:=L.a22;have z22:=L.z22;have v22:=L.v22
 obtain⟨i0,hi0,hz0,hz1,hz2⟩:=info_parts L.i3
 by_cases heq:i=j
 .subst heq
  have h0:Calls P (ρ.f 23) #[.slice (some ⟨blk,off,none⟩) d.size cap,.int .i64 i,.int .i64 i] w λe w'=>e=.returned (.slice (some ⟨blk,off,none⟩) d.size cap)/\w'=w:=by
   go_enter L.f23,Body2.n23_ntmps ρ
   go_wp2
   all_goals (go_ret;exact⟨rfl,rfl⟩)
  refine h0.mono ?_
  rintro e w' ⟨rfl,rfl⟩
  have e:(d.toList.take i++d.toList.drop i++List.replicate (i-i) 0).toArray=d:=by simp
  refine⟨by rw[Nat.sub_self,Nat.sub_zero],0,?_⟩
  rw[e]
  exact(putRow_self (Value.int .i64) (Sort.ahead w' 0) blk off d hH).symm
 .have hlt:i<j:=by omega
  obtain⟨news,hnews⟩:∃news,news=(d.toList.drop j).map (Value.int .i64):=⟨_,rfl⟩
  have hlen:news.length=d.size-j:=by rw[hnews];simp
  have hget:∀t,t<d.size-j->news[t]?=some ((Value.int .i64) d[j+t]!):=by
   intro t ht
   rw[hnews,aaS,acg,acO,getElem!_pos d (j+t) (by omega),abb (by omega)]
   rfl
  obtain⟨A,hA,hsrc⟩:∃A:Addr,(if cap=j then some (⟨blk,off,none⟩:Addr) else some ⟨blk,off+j,none⟩)=some A/\Hid (∀t u,news[t]?=some u->w.drew.cell? (A.add t)=some u):=by
   by_cases h:cap=j
   .refine⟨⟨blk,off,none⟩,by simp[h],λt u hu=>?_⟩
    have h0:news.length=0:=by rw[hlen];omega
    rw[ace.1 h0] at hu
    simp at hu
   .refine⟨⟨blk,off+j,none⟩,by simp[h],λt u hu=>?_⟩
    have ht:t<d.size-j:=by
     have:=(aaX.1 hu).1
     rwa [hlen] at this
    rw[hget t ht] at hu
    rw[Addr.add_lit,show off+j+t=off+(j+t) by omega]
    exact(hH (j+t) (by omega)).1.trans hu
  have s1:Hid (news.length=(d.size-j)*1):=by rw[ac8];exact hlen
  have s2:Hid (∀u∈news,u.oneCell'=true):=by
   intro u hu
   rw[hnews] at hu
   obtain⟨x,_,rfl⟩:=aba.1 hu
   rfl
  have s3:Hid (∀t,t<news.length->(w.drew.cell? ⟨blk,off+i*1+t,none⟩).isSome=true/\w.drew.frozen? ⟨blk,off+i*1+t,none⟩=false):=by
   intro t ht
   rw[ac8,abx]
   exact⟨by show (w.cell? _).isSome=true;rw[(hH (i+t) (by omega)).1];rfl,(hH (i+t) (by omega)).2⟩
  obtain⟨W1,hW1⟩:∃W1,W1=w.drew.setCells blk (off+i*1) news:=⟨_,rfl⟩
  have hW1':W1=putRow (Value.int .i64) (Sort.ahead w 1) blk off (lay d i (d.toList.drop j)):=by
   rw[hW1,hnews,ac8,<-putRow_setCells (Value.int .i64) (Sort.ahead w 1) blk off _ d i (by simp;omega),putRow_self (Value.int .i64) (Sort.ahead w 1) blk off d (holds_ahead (Value.int .i64) w 1 blk off d hH)]
   rfl
  have hH1:Holds (Value.int .i64) W1 blk off (lay d i (d.toList.drop j)):=by rw[hW1'];exact holds_putRow (Value.int .i64) _ blk off d _ (holds_ahead (Value.int .i64) w 1 blk off d hH) (lay_size _ _ _)
  have hcl:∀ty,(Builtin.clear_ #[ρ.t 22] ty #[.slice (some ⟨blk,off+(i+(d.size-j)),none⟩) (d.size-(i+(d.size-j))) (cap-(i+(d.size-j)))]).run P W1=.ok (.tuple #[]) (W1.setCells blk (off+(i+(d.size-j))) (List.replicate (d.size-(i+(d.size-j))) ((Value.int .i64) 0))):=
   λty=>Lib.run_clear_slice W1 _ _ ty _ t22 v3 rfl rfl blk (off+(i+(d.size-j))) _ _ (by omega) (λt ht=>by rw[show off+(i+(d.size-j))+t=off+(i+(d.size-j)+t) by omega,(hH1 _ (by rw[lay_size];omega)).1];rfl) (λt ht=>by rw[show off+(i+(d.size-j))+t=off+(i+(d.size-j)+t) by omega];exact(hH1 _ (by rw[lay_size];omega)).2)
  have X:Aside (W1=putRow (Value.int .i64) (Sort.ahead w 1) blk off (lay d i (d.toList.drop j))):=hW1'
  have hW:Hid (W1=w.drew.setCells blk (off+i*1) news):=hW1
  have hic:i<=cap:=by omega
  clear hW1 hW1' hH1 hH hget hnews hlen
  go_enter L.f23,Body2.n23_ntmps ρ
  go_wp2_with fail
  go_region_law_o (refine step_append_room rfl (.tmp 22) (.tmp 25) (ρ.t 22) rfl (ρ.t 3) i0 1 t22 hi0 hz1 blk off i cap (by simp[Act.eval,Act.put]) A (d.size-j) (cap-j) news (by simp[Act.eval,Act.put]) s1.out hsrc.out s2.out (by omega) s3.out ?_;rw[<-hW.out])
  go_wp2
  go_ret
  refine⟨by rw[show d.size-(j-i)=i+(d.size-j) by omega];rfl,1,?_⟩
  rw[<-delete_arr d i j 0 hij hj,<-putRow_setCells (Value.int .i64) _ blk off _ _ (i+(d.size-j)) (by rw[lay_size];simp;omega),<-X.out,List.map_replicate,show d.size-(i+(d.size-j))=j-i by omega]
open Go Go.Lib Go.Proofs Go.Shelf Go.RowKit Go.Sort
theorem D6 {l:List Int} {p:Nat} (hp:p<l.length):(dH l p 1 []).length=l.length-1:=by
 unfold dH;simp;omega
theorem Pr:QH:=by
 intro H u l p O hp W
 refine⟨by kernel_rfl,?_⟩
 rintro h rfl
 obtain⟨n,rfl,z⟩:=O.sl (by simp;omega)
 simp only[aaU] at *
 have i:n<h.length:=fg (by rw[z];simp)
 refine⟨.sl n 0 (l.length-1) 1,h.set n (.arr 1 (aM (dH l p 1 []))),⟨by simp,λZ μ F w xs v hr A=>?_⟩,λk hk s=>?_,?_,?_⟩
 rotate_left
 .rw[gM i]
  simp only[View.set]
  rw[aaR (λe=>by rw[e,z] at s;simp at s)];exact s
 .exact .inr ⟨n,by rw[aaU,D6 hp],by rw[gM i];simp[View.set]⟩
 .intro id P hu
  have M:id≠n:=λe=>hu (by rw[e];rfl)
  rw[gM i]
  exact⟨by simp only[View.set];rw[aaR M],λe=>M (by simp[owner] at e;exact e.symm)⟩
 obtain⟨hlen,B⟩:=v
 obtain⟨C,D,E,rfl⟩:∃C D E,xs=[C,D,E]:=by
  match xs,hlen with
  | [a,b,c],_=>exact⟨a,b,c,rfl⟩
 have Q:aD Z μ w.heap (.sl n 0 l.length 1) C:=B 0 (by simp)
 have h1:aD Z μ w.heap (gi p) D:=B 1 (by simp)
 have R:aD Z μ w.heap (gi ((p:Int)+1)) E:=B 2 (by simp)
 obtain rfl:=fe h1
 obtain rfl:=fe R
 rcases yq Q with ⟨e,_⟩ | ⟨b,o0,cap,c0,X,f0,rfl,r,x,m,S⟩
 .omega
 have G:cat h F n=.arr 1 (aM l):=by simp only[cat];rw[aaT i,z]
 obtain⟨c,e,f,I,N,Y,J⟩:=Ho hr G r
 rw[m] at I
 simp only[aaV,Obj.cells.injEq] at I
 obtain⟨rfl,rfl,rfl⟩:=I
 have hH:Holds (Value.int .i64) w b o0 l.toArray:=λj t=>by
  have t:j<l.length:=by simpa using t
  refine⟨?_,VC m N (by omega)⟩
  rw[J j t]
  simp[aaP,t]
 have g:=MZ ZM b o0 cap p (p+1) l.toArray w hH (by simpa using x) (by simp;omega) (by omega) (by simp;omega)
 rw[show ((p+1:Nat):Int)=(p:Int)+1 by omega] at g
 simp only[acd,Nat.zero_mul,acp] at g ⊢
 refine Calls.mono (show Calls aa 144 _ w _ from g) ?_
 rintro e w' ⟨rfl,q,rfl⟩
 generalize s:(l.take p++l.drop (p+1)++List.replicate (p+1-p) 0).toArray=d
 have K:d.size=l.length:=by rw[<-s];simp;omega
 have y:fo w (putRow (Value.int .i64) (Sort.ahead w q) b o0 d) b:=(fo.ahead w b q).trans (fo.map _ _ _ (λc=>by simp[putCells]))
 have o:Holds (Value.int .i64) (putRow (Value.int .i64) (Sort.ahead w q) b o0 d) b o0 d:=holds_putRow _ _ b o0 l.toArray d (holds_ahead _ w q b o0 _ hH) (by simp[K])
 obtain⟨T,k2⟩:=YE (l':=dH l p 1 []) hr z r y m N (by rw[D6 hp];omega) (λj t=>by
  rw[D6 hp] at t
  rw[(o j (by omega)).1,<-s]
  unfold dH
  congr 2
  rw[getElem!_pos _ j (by simp;omega)]
  simp only[List.getElem_toArray,abK,aaP]
  rw[List.getElem_append_left (by simp;omega),aaQ (by simp;omega),aa8])
 obtain⟨U,L,V⟩:=y.cell _ _ _ m
 refine⟨_,Z,μ,rfl,?_,T,k2,λ_ _=>rfl⟩
 have:=aD.sl (Z:=Z) (μ:=μ) (hp:=(putRow (Value.int .i64) (Sort.ahead w q) b o0 d).heap) n 0 (l.length-1) 1 b o0 cap U _ _ r (by omega) L (by omega)
 simpa using this
theorem oG {g:aj} (a:g.Small):g.ax.length<=1000:=by have:=a.names;omega
theorem B9 (g:aj) (d:g.Ok) (a:g.Small) (m:Int):aC aa 41 [.agg (ak g),gi m] (CL (gF g m)):=
 VP Gf Pr g d a m (λb c=>by
  obtain⟨h1,e,f,h⟩:=N2 (oG a) c
  exact⟨by omega,e,f,h⟩) (by have:=(vw g).1;omega) (oG a) λhm b c x i j=>UG hm c i j
theorem we (g:aj) (a:g.Ok) (b:g.Small) (w:List Int) (hw:aI w) (c:∀x∈w,bm x) (p t m:Int) (d:bm t):
 cg aa 38 [.agg (ak g),encI w,gi p,gi t,gi m] (EE (ni g w p t m)):=Vd Gf g a b w hw c p t m d
noncomputable def Xm:List (FuncId × DF):=CG aa [(36,[]),(26,[])]
theorem PL:sE aa Xm:=vL _ _
noncomputable def WK:List HM:=[(44,[D7 TT],uX dr,false),(44,[D7 Wx],uX kz,false),
 (38,[.agg (ak dr),encI [0,1],gi 1,gi 0,gi 5],EE (([0,0],true),0),false),(38,[.agg (ak kz),encI [0],gi 0,gi 0,gi 5],EE (([],false),0),false),(38,[.agg (ak dr),encI [0],gi 2,gi 0,gi 5],EE (([],false),1),false),
 (41,[.agg (ak dr),gi 9],CL (Fg,0),true),(41,[.agg (ak vh),gi 9],CL ([],1),true)]
theorem VV:∀x∈WK,x.Ok aa:=by
 intro x a
 simp only[WK,abd,List.not_mem_nil,or_false] at a
 rcases a with rfl | rfl | rfl | rfl | rfl | rfl | rfl
 .exact⟨by kernel_rfl,.inl YY⟩
 .exact⟨by kernel_rfl,.inl Zk⟩
 .exact⟨by kernel_rfl,.inl (YJ▸we dr BQ vI [0,1] (by unfold aI;decide) (by unfold bm;decide) 1 0 5 (by unfold bm;decide))⟩
 .exact⟨by kernel_rfl,.inl (Zl▸we kz HY.1 HY.2 [0] (by unfold aI;decide) (by unfold bm;decide) 0 0 5 (by unfold bm;decide))⟩
 .exact⟨by kernel_rfl,.inl (XB▸we dr BQ vI [0] (by unfold aI;decide) (by unfold bm;decide) 2 0 5 (by unfold bm;decide))⟩
 .exact⟨by kernel_rfl,Rt▸B9 dr BQ vI 9⟩
 .exact⟨by kernel_rfl,Y6▸B9 vh YR ⟨by decide⟩ 9⟩
theorem Qg:aC aa 36 [] (gb true):=
 (qM mixed PL (Mi VV) (by simp) (by kernel_rfl)).pure
theorem MJ (g:aj) (c:g.Ok) (a:g.Small):aC aa 40 [.agg (ak g)] (gb (EX g)):=
 Pm g c (by have:=(vw g).1;omega) (oG a) λb d=>by have:=(N2 (oG a) d).1;unfold aI;omega
theorem TJ {g:aj} {m:Int} : (gF g m).1.length<=2000/\(∀c∈(gF g m).1,c.2.length<=61/\iC g c.2 m=true/\(∀x∈c.2,0<=x/\x<g.ax.length)/\bt g=true/\m<=60)/\(gF g m).1.Pairwise (λa b=>a.1<=b.1)/\((gF g m).2≠0->(gF g m).1=[]):=by
 unfold gF
 split
 .rename_i h1
  split
  .simp
  .rename_i k
   have k:(cd g).2=0:=acn.1 k
   split
   .simp
   .rename_i t
    refine⟨by simp only;omega,λc e=>?_,?_,λh=>absurd rfl h⟩
    .obtain⟨b,p,e⟩:=acu.1 e
     obtain⟨i,_,o⟩:=Be p
     unfold fS at e
     obtain⟨x,d,rfl⟩:=aba.1 e
     have l:=Vm d
     have k2:=PG o.ax d
     have q:=(Cr o.right k2 h1.2.2).1 l
     exact⟨by have:=q.1;have:=h1.2.2;simp only;omega,l,k2,o.right,h1.2.2⟩
    .have hp:(cd g).1.Pairwise λa b=>a.state<=b.state:=by
      rw[List.pairwise_iff_getElem]
      intro i j hi r s
      rw[(wZ (aaQ hi)).1.state,(wZ (aaQ r)).1.state]
      omega
     rw[List.pairwise_flatMap]
     refine⟨λb _=>?_,hp.imp λ{a b} f x d y n=>?_⟩
     .unfold fS
      rw[ac7]
      exact List.pairwise_of_forall λ_ _=>Int.le_refl _
     .unfold fS at d n
      obtain⟨_,_,rfl⟩:=aba.1 d
      obtain⟨_,_,rfl⟩:=aba.1 n
      exact f
 .simp
def mb:SC:=
 ai [ai [ag [af 90 17,af 91 7,aN 92 91,aS 93 .lss 90 92],bP 93 (.exit 0)],.block 1 (.region false [⟨none,[af 96 16,af 97 96]⟩,⟨(some (97,false)),[af 98 7,af 99 17,aL 100 3 98 99,aw 101 1 100,au 102 101,aw 103 0 11,au 104 103,aS 105 .eql 102 104,af 106 105]⟩,⟨(some (106,true)),[af 107 7,af 108 17,aL 109 3 107 108,aw 110 2 109,au 111 110,af 112 13,aV 113 26 [111,112]]⟩,⟨(some (97,false)),[dO 114 106 113]⟩,⟨none,[cE 115 97 114,af 16 115]⟩]),ag [af 94 17,aH 95 .add 94 1,af 17 95]]
def nE:SF:=⟨ai [ag [cm 3 0,bh 6 false],ai [ag [aV 21 36 [],cR 22 21],aX 22 (ai [ag [bh 6 false],.ret])],ai [.region false [⟨none,[aU 23 4 3,aV 24 14 [23],af 25 24]⟩,⟨(some (25,false)),[aU 26 4 3,aV 27 40 [26]]⟩,⟨none,[cE 28 25 27,af 29 28]⟩,⟨(some (29,false)),[aU 30 4 3,aV 31 15 [30],cR 32 31]⟩,⟨none,[cE 33 29 32,af 34 33]⟩,⟨(some (34,false)),[aw 35 0 3,au 36 35,aN 37 36,aH 38 .eql 37 0]⟩,⟨none,[cE 39 34 38]⟩],aX 39 (ai [ag [bh 6 true],.ret])],ag [aU 41 4 3,oz 42 41 [(.tmp 41),(.val (.val (.int .i64 60)))],af 40 42,c7 43 0 40,c7 44 1 40,af 7 43,af 8 44],ag [aU 46 4 3,aV 47 29 [46],af 45 47,c7 48 0 45,c7 49 1 45,af 9 48,af 10 49],ai [.region false [⟨none,[af 50 8,aH 51 .neq 50 0,af 52 51]⟩,⟨(some (52,false)),[af 53 10,aH 54 .neq 53 0]⟩,⟨none,[cE 55 52 54]⟩],aX 55 (ai [.region false [⟨none,[af 56 8,af 57 10,aS 58 .eql 56 57,af 59 58]⟩,⟨(some (59,false)),[af 60 8,aH 61 .eql 60 13]⟩,⟨none,[cE 62 59 61,af 6 62]⟩],.ret])],ag [af 63 9,af 64 1,((some 65),.op (.conv .i64 (.tmp 64))),af 66 9,aN 67 66,aS 68 .rem 65 67,aL 69 3 63 68,aU 70 3 69,af 71 2,((some 72),.op (.conv .i64 (.tmp 71))),aw 73 0 3,au 74 73,aN 75 74,aS 76 .rem 72 75,((some 11),.op (.alloc [(.val (.int .i64 0)),(.val (.int .i64 0)),(.emp 1)])),cz 3 11 70,af 12 76],ag [aU 78 4 3,aw 79 2 11,au 80 79,aw 81 1 11,au 82 81,af 83 12,oz 84 38 [(.tmp 78),(.tmp 80),(.tmp 82),(.tmp 83),(.val (.val (.int .i64 60)))],af 77 84,c7 85 0 77,c7 86 1 77,c7 87 2 77,af 13 85,af 14 86,af 15 87],ai [ag [af 88 15,aH 89 .neq 88 0],aX 89 (ai [ag [bh 6 false],.ret])],ag [bh 16 false],ai [ag [aT 17 0],bQ 0 mb],.sn [(125,121),(127,121)] [⟨none,[aw 116 2 11,au 117 116,aw 118 1 11,au 119 118,((some 120),.op (.slice 1 (.tmp 117) none (some (.tmp 119)))),((some 121),.oQ (.val (.fn 37 [] [])) [(.tmp 120)]),af 122 12,((some 123),.op (.bN 1 1 [(.val (.int .i64 0))] [(0,(.tmp 122))])),fL 124 1 8 121 123,aw 125 2 11,au 126 125,aw 127 1 11,au 128 127,((some 129),.op (.slice 1 (.tmp 126) (some (.tmp 128)) none)),fL 130 1 8 124 129,af 18 130]⟩],ag [aU 132 4 3,af 133 18,aV 134 35 [132,133],af 131 134,c7 135 0 131,c7 136 1 131,af 19 135,af 20 136],.region false [⟨none,[af 137 14,af 138 137]⟩,⟨(some (138,true)),[af 139 16]⟩,⟨none,[dO 140 138 139,af 141 140]⟩,⟨(some (141,false)),[af 142 14,cR 143 142,af 144 143]⟩,⟨(some (144,true)),[af 145 19]⟩,⟨(some (141,false)),[dO 146 144 145]⟩,⟨none,[cE 147 141 146,af 6 147]⟩],.ret],
 [.tmp 6],148⟩
theorem tZ:aJ aa 12 [3,100000,200121]=some nE:=by kernel_rfl
theorem Vi (g:aj) (y z:Int):∀v∈[V.agg (ak g),.val (.int .u16 y),.val (.int .u8 z)],Tree v:=by
 intro v a;simp at a
 rcases a with rfl | rfl | rfl
 .exact bW _ (cx g)
 .exact .val _
 .exact .val _
theorem Lv {y:Int} (a:0<=y) {n:Nat} (b:0<n):∃k:Nat,y.tmod (n:Int)=k/\k<n:=by
 have h1:=Int.tmod_nonneg (n:Int) a
 have c:=Int.tmod_lt_of_pos y (show (0:Int)<(n:Int) by omega)
 exact⟨(y.tmod (n:Int)).toNat,by omega,by omega⟩
theorem LQ (g:aj) (S:g.Ok) (y:Int) (aq:0<=y) (bx:y<=65535) (z:Int) (ar:0<=z) (b0:z<=255):aC aa 12 [.agg (ak g),.val (.int .u16 y),.val (.int .u8 z)] (gb true):=by
 refine aC.val (Vi g y z) λH=>?_
 refine ay.of mixed tZ ?_
 simp(disch:=omega)only[↓wr,seval,wq,nE,ak,encS]
 refine az.pure Qg ?_
 simp(disch:=omega)only[↓wr,seval,wq,ak,encS]
 refine az.pure (UY g) ?_
 simp(disch:=omega)only[↓wr,seval,wq]
 apply ao.split<;>intro e
 .simp(disch:=omega)only[↓wr,seval,wq]
 have hs:=MO e
 have hT:=oG hs
 have h0:=MJ g S hs
 have h1:=LP g S
 have h2:=B9 g S hs 60
 have h3:=EV g S
 simp only[ak,encS] at h0 h1 h2 h3
 simp(disch:=omega)only[↓wr,seval,wq,ak,encS]
 refine az.pure h0 ?_
 simp(disch:=omega)only[↓wr,seval,wq]
 apply ao.split<;>intro G
 .simp(disch:=omega)only[↓wr,seval,wq]
 simp(disch:=omega)only[↓wr,seval,wq,ak,encS]
 refine az.pure h1 ?_
 simp(disch:=omega)only[↓wr,seval,wq]
 apply ao.split<;>intro hi
 rotate_left
 .simp(disch:=omega)only[↓wr,seval,wq]
 simp(disch:=omega)only[↓wr,seval,wq,ak,encS]
 apply ao.eq<;>intro c0
 .simp(disch:=omega)only[↓wr,seval,wq]
 simp(disch:=omega)only[↓wr,seval,wq,ak,encS]
 refine az.pure h2 ?_
 simp(disch:=omega)only[↓wr,seval,wq,CL,ak,encS]
 refine az.pure h3 ?_
 simp(disch:=omega)only[↓wr,seval,wq,Aj]
 have M:gF g 60=if (cd g).2≠0 then ([],(cd g).2) else if 2000<((cd g).1.flatMap (fS g 60)).length then ([],13) else ((cd g).1.flatMap (fS g 60),0):=by
  unfold gF
  rw[aaT ⟨hi,by omega,by omega⟩]
 apply ao.ne<;>intro o
 .simp(disch:=omega)only[↓wr,seval,wq]
  apply ao.eq<;>intro s
  .simp(disch:=omega)only[↓wr,seval,wq]
  .simp(disch:=omega)only[↓wr,seval,wq]
   have h6:(gF g 60).2=13:=by
    rw[M] at o s ⊢
    split at o
    .rename_i a
     rw[aaT a] at s
     exact absurd rfl s
    .rename_i a
     rw[aaR a]
     split at o
     .rename_i h8;rw[aaT h8]
     .exact absurd rfl o
   rw[h6]
   rfl
 have N:(cd g).2=0:=by
  rw[M] at o
  split at o
  .rename_i a;exact absurd o a
  .rename_i a;exact acn.1 a
 have a1:(gF g 60).1=(cd g).1.flatMap (fS g 60):=by
  rw[M] at o ⊢
  rw[aaR (by simp[N])] at o ⊢
  split at o
  .exact absurd o (by decide)
  .rename_i h8;rw[aaR h8]
 simp(disch:=omega)only[↓wr,seval,wq]
 refine ao.ne (λs=>absurd N s) (λ_=>?_)
 have V:0<(cd g).1.length:=by
  unfold cd at N ⊢
  split at N
  .rename_i a;exact absurd N a
  .rename_i a
   rw[aaR a]
   have a:(cD g).2=0:=acn.1 a
   have:=(Ee _ N).1
   have:=(CV a).2.1.pos
   omega
 obtain⟨i,a6,O⟩:=Lv aq V
 obtain⟨t,A,a7⟩:=Lv ar (show 0<g.ax.length by omega)
 have U:(cd g).1[i]?=some ((cd g).1[i]'O):=aaQ O
 have P:=aa1 U
 generalize (cd g).1[i]'O=b at U P
 obtain⟨I,_⟩:=wZ U
 obtain⟨p,hp⟩:∃p:Nat,b.len=p:=⟨b.len.toNat,by have:=I.len;omega⟩
 have ol:=I.len
 have h9:b.word.length<=9:=by
  unfold EX at G
  rw[hi,abt N,aby,aby,Bool.or_eq_false_iff,ac6] at G
  have:=G.1 b P
  simpa using this
 have hn:∀x∈b.word,bm x:=λx U=>by have:=I.ax x U;unfold bm;omega
 have a8:ni g b.word p t 60=(fF g b.word p t 60,0):=by
  unfold ni
  rw[aaT ⟨BF.2 ⟨I.right,by omega,I.ax⟩,by omega,by omega,by omega⟩,show ((p:Int)).toNat=p by omega]
 have s:=(we g S hs b.word (by unfold aI;omega) hn p t 60 (by unfold bm;omega)).pure
 rw[a8] at s
 have d:(fF g b.word p t 60).2=true->(b.state,(fF g b.word p t 60).1)∈(gF g 60).1:=λh=>by
  rw[a1]
  refine acu.2 ⟨b,P,aba.2 ⟨_,Qk (b:=b) (t:=t) a7 ?_,?_⟩⟩
  .rw[show b.len.toNat=p by omega];exact h
  .rw[show b.len.toNat=p by omega]
 have W:(fF g b.word p t 60).2=false->kQ g (dH b.word p 0 [(t:Int)])=(true,0):=λh=>by
  have h1:=Xt h
  have X:∀x∈dH b.word p 0 [(t:Int)],0<=x/\x<g.ax.length:=Bq I.ax (by omega)
  have hle:((dH b.word p 0 [(t:Int)]).length:Int)<=60:=by rw[ki (by omega)];omega
  rw[C1 I.right X (by omega) hle]
  cases hf:mN g (dH b.word p 0 [(t:Int)]) with
  | true=>rfl
  | false=>rw[(Cr I.right X (by omega)).2 ⟨hle,hf⟩] at h1;simp at h1
 have J:=Wk g S (dH b.word p 0 [(t:Int)]) (by unfold aI;rw[ki (by omega)];omega) (Sr hn (by unfold bm;omega))
 obtain⟨k1,k2,_,_⟩:=TJ (g:=g) (m:=60)
 have hints:=λ(c:Int × List Int) (hc:c∈(gF g 60).1)=>O7 c.2 (fF g b.word p t 60).1 (by have:=(k2 c hc).1;unfold aI;omega)
 have bd:=λH=>Se (b.word.take p) (by simp;omega) H
 have B:cZ 1 (encI b.word) none (some (gi p))=some (encI (b.word.take p),.none,[]):=zq (l:=b.word) (k:=p) (by omega)
 have C:cZ 1 (encI b.word) (some (gi p)) none=some (encI (b.word.drop p),.none,[]):=qj (l:=b.word) (k:=p) (by omega)
 generalize fF g b.word p t 60=w at *
 obtain⟨w,ok⟩:=w
 generalize kQ g (dH b.word p 0 [(t:Int)])=q at *
 generalize (gF g 60).1=l at *
 generalize (cd g).1=L at *
 simp only at d W hints
 simp only[ak,encS,encI] at s
 have bl:¬ ((L.length:Int)=0):=by omega
 have bn:¬ ((g.ax.length:Int)=0):=by omega
 simp(disch:=omega)only[↓wr,seval,wq,aaU,a6,A,aaR bl,aaR bn,aaS,U,aa2,fE,ak,encS]
 intro n br
 refine⟨rfl,?_⟩
 rw[hp]
 simp only[encI] at s ⊢
 refine az.pure s ?_
 simp(disch:=omega)only[↓wr,seval,wq,EE]
 refine aW.up l.length (λi T H'=>H' n=.arr 3 [fE b]/\T 3=.aR (ak g) 0/\T 7=.aZ (l.map vO)/\T 11=.ptr n 0 0/\T 12=gi t/\T 13=encI w/\T 14=gb ok/\T 16=gb ((l.take i).any λc=>decide (c=(b.state,w)))/\T 17=gi i) ⟨by simp only[View.set,if_true,fE,encI,hp],rfl,rfl,rfl,rfl,rfl,rfl,by simp;rfl,rfl⟩ ?_
 clear br h0 h1 h2 h3 o s
 rintro i k T H1 hk ⟨K,t3,t7,t11,t12,t13,t14,t16,t17⟩
 simp(disch:=omega)only[↓wr,seval,wq,mb,t3,t7,t11,t12,t13,t14,t16,t17]
 apply ao.dec<;>intro hc
 .have v:l[i]?=some (l[i]'(by omega)):=aaQ (by omega)
  have Y:=aa1 v
  have A:l.take (i+1)=l.take i++[l[i]'(by omega)]:=by rw[aa9,v];rfl
  generalize l[i]'(by omega)=c at v Y A
  have bs:=hints c Y
  have D:((l.take (i+1)).any λc=>decide (c=(b.state,w)))=((l.take i).any (λc=>decide (c=(b.state,w)))||decide (c=(b.state,w))):=by
   rw[A,List.any_append];simp
  generalize ((l.take i).any λc=>decide (c=(b.state,w)))=f at t16 D
  simp(disch:=omega)only[↓wr,seval,wq,t3,t7,t11,t12,t13,t14,t16,t17]
  cases f with
  | true =>
   simp(disch:=omega)only[↓wr,seval,wq,t3,t7,t11,t12,t13,t14,t16,t17]
   exact aE hk (by omega) ⟨K,t3,t7,t11,t12,t13,t14,by rw[D];rfl,rfl⟩
  | false =>
   simp(disch:=omega)only[↓wr,seval,wq,t3,t7,t11,t12,t13,t14,t16,t17,aaS,v,aa2,vO,K,fE]
   apply ao.eq<;>intro h
   .simp(disch:=omega)only[↓wr,seval,wq,t3,t7,t11,t12,t13,t14,t16,t17,aaS,v,aa2,vO]
    refine az.pure bs ?_
    simp(disch:=omega)only[↓wr,seval,wq,t3,t7,t11,t12,t13,t14,t16,t17]
    refine aE hk (by omega) ⟨K,t3,t7,t11,t12,t13,t14,?_,rfl⟩
    rw[D,acC]
    have G:decide (c=(b.state,w))=(c.2==w):=by
     obtain⟨c1,c2⟩:=c
     simp only at h
     subst h
     rw[abD]
     simp
    rw[G]
    rfl
   .simp(disch:=omega)only[↓wr,seval,wq,t3,t7,t11,t12,t13,t14,t16,t17]
    refine aE hk (by omega) ⟨K,t3,t7,t11,t12,t13,t14,?_,rfl⟩
    have G:decide (c=(b.state,w))=false:=decide_eq_false λe3=>h (by rw[e3])
    rw[D,acC,G]
    rfl
 obtain rfl:i=l.length:=by omega
 rw[aca] at t16
 have Z:ok=true->(l.any λc=>decide (c=(b.state,w)))=true:=λh=>ab8.2 ⟨_,d h,by simp⟩
 generalize (l.any λc=>decide (c=(b.state,w)))=f at t16 Z
 simp(disch:=omega)only[↓wr,seval,wq,t3,t7,t11,t12,t13,t14,t16,t17,K,fE,hp,B,C]
 refine az.Cy ((bd _).mono λr H' h=>h) ?_
 intro u H2 ou fu
 have E:H2 n=.arr 3 [fE b]:=by rw[(fu n (by rw[K];simp)).1,K]
 have Q:=ou.ey
 simp(disch:=omega)only[↓wr,seval,wq,t3,t7,t11,t12,t13,t14,t16,t17,E,fE,hp,B,C,Q]
 intro q2 R
 have ab:owner u≠some n:=(fu n (by rw[K];simp)).2
 have ae:n≠q2:=by rintro rfl;rw[E] at R;simp at R
 rw[bG]
 simp(disch:=omega)only[↓wr,seval,wq,t12]
 refine jU (ou.fresh R) (by simp) (by simp[aK]) (by unfold aF;simp;omega) (by unfold aF;simp;omega) λu3 H3 o3 f3=>?_
 obtain⟨F,b1⟩:=f3 n (by simp[View.set,ae,E]) ab
 have F:H3 n=.arr 3 [fE b]:=by rw[F];simp[View.set,ae,E]
 have al:=o3.ey
 simp(disch:=omega)only[↓wr,seval,wq,t3,t7,t11,t12,t13,t14,t16,t17,F,fE,hp,B,C,Q,al]
 rw[show bM H3 (encI (b.word.drop p))=some (aM (b.word.drop p),[]) from rfl]
 simp(disch:=omega)only[↓wr,seval,wq]
 have an:=λj=>Xr (i:=0) (j:=j) ou ab
 refine eL o3 (XO (b.word.drop p)) (by unfold aF;simp;omega) (by unfold aF;simp;omega) ?_
 rintro u4 H4 o4 -
 replace o4:aP H4 u4 1 (aM (dH b.word p 0 [(t:Int)])):=by
  have e5:aM (dH b.word p 0 [(t:Int)])=aM (b.word.take p)++[[gi (t:Int)]]++aM (b.word.drop p):=by unfold dH;simp
  rw[e5];exact o4
 simp only[ak,encS] at J
 simp(disch:=omega)only[↓wr,seval,wq,t3,t7,t11,t12,t13,t14,t16,t17,F,fE,hp,B,C,Q,al,an,ak,encS]
 refine az.xE J (by kernel_rfl) (.bb _ λi hi=>by
  match i,hi with
  | 0,_=>exact⟨_,rfl⟩
  | 1,_=>exact⟨_,rfl⟩) ⟨.tree (bW _ (by simpa [ak,encS] using cx g)),.EF o4,trivial⟩ ?_
 obtain⟨q1,q2⟩:=q
 cases ok with
 | true =>
  rw[Z rfl] at t16
  simp(disch:=omega)only[↓wr,seval,wq,zT,t14,t16]
 | false =>
  have hq:=W rfl
  simp only[abf] at hq
  rw[hq.1]
  simp(disch:=omega)only[↓wr,seval,wq,zT,t14,t16]
end Gv
