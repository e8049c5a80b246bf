/-
  Part 10 of the proof: what the machine does and what the functions answer.
  Conditions: those that each lemma names.
-/
import Derived.Test.YtoamakccoedejaaGreatDoorRows
import Derived.ProofKit
import Derived.LaidMore
import Derived.OpenShut
import Derived.Stop.Joined
import Derived.Test.YtoamakccoedejaaGreatDoorSGjSI
set_option linter.unusedSimpArgs false
set_option linter.unusedVariables false
set_option linter.unusedSimpArgs false
set_option maxRecDepth 100000
namespace Gv
open Go Go.Proofs
noncomputable def Ef:List (FuncId × DF):=fM aa [(4,[]),(11,[3]),(21,[]),(50,[]),(13,[]),(6,[]),(5,[]),(14,[])]
theorem zB:ei aa Ef:=dB _ _
theorem EA:ak aa 17 [.agg (ax kr)] (gb false):=(show bQ kr=false by kernel_rfl)▸gS kr Fh (by decide)
def FO:List ff:=[(10,[uM Dw],om bD,false),(17,[.agg (ax kr)],gb false,false),(11,[c7,gi 2,gi 3],.aA [jI 3423994125 1,gi 0],false),(12,[c7,jI 3423994125 1],oE 5 0 (-1) 0,false),(12,[c7,jI 3423994125 2],oE 5 1 1 0,false),(12,[c7,jI 3423994126 2],oE 0 0 0 15,false)]
theorem Ee:∀x∈FO,x.Ok aa:=
 ext_cons (.new FF (by kernel_rfl))<|ext_cons (.yN EA (by kernel_rfl))<|ext_cons (.new Fv (by kernel_rfl))<|ext_cons (.new DS (by kernel_rfl))<|ext_cons (.new Ei (by kernel_rfl))<|ext_cons (.new Eo (by kernel_rfl)) (by simp)
theorem DI:ak aa 4 [] (gb true):=(bb mixed zB (b5 Ee) (by simp) (by kernel_rfl)).pure
end Gv
set_option linter.unusedSimpArgs false
set_option maxRecDepth 100000
namespace Gv
open Go Go.Proofs
def dc:SC:=
 ai [ai [af [ab 29 5,ab 30 3,bg 31 30,cm 32 .lss 29 31],eY 32 (.exit 0)],.block 1 (ai [ai [.region false [⟨none,[ab 35 3,ab 36 5,b4 37 1 35 36,aG 38 37,aZ 39 .lss 38 0,ab 40 39]⟩,⟨(some (40,false)),[ab 41 3,ab 42 5,b4 43 1 41 42,aG 44 43,aZ 45 .gtr 44 65535]⟩,⟨none,[fY 46 40 45,ab 47 46]⟩,⟨(some (47,false)),[ab 48 5,aZ 49 .quo 48 2,ab 50 4,bg 51 50,cm 52 .geq 49 51]⟩,⟨none,[fY 53 47 52]⟩],bV 53 (ai [af [bq 2 false],.ret])],af [ab 54 4,ab 55 5,aZ 56 .quo 55 2,ab 57 4,ab 58 5,aZ 59 .quo 58 2,b4 60 1 57 59,aG 61 60,ab 62 3,ab 63 5,b4 64 1 62 63,aG 65 64,((some 66),.op (.conv .u32 (.tmp 65))),ab 67 5,aZ 68 .rem 67 2,((some 69),.op (.arith .mul (.val (.val (.int .i64 16))) (.tmp 68))),((some 70),.op (.sh true (.tmp 66) (.tmp 69))),cm 71 .or 61 70,b4 72 1 54 56,gp 1 72 71]]),af [ab 33 5,aZ 34 .add 33 1,ab 5 34]]
def eZ:SF:=⟨ai [af [bq 2 false],ai [af [bX 6 4 [],db 7 6],bV 7 (ai [af [bq 2 false],.ret])],ai [af [ab 8 0,bg 9 8,aZ 10 .gtr 9 40],bV 10 (ai [af [bq 2 true],.ret])],af [ab 11 0,bX 12 5 [11],ab 3 12],ai [.region false [⟨none,[ab 13 3,ab 14 0,bX 15 7 [14],bX 16 6 [13,15],db 17 16,ab 18 17]⟩,⟨(some (18,false)),[ab 19 0,bX 20 8 [19],db 21 20]⟩,⟨none,[fY 22 18 21]⟩],bV 22 (ai [af [ab 23 3,bg 24 23,aZ 25 .eql 24 0,ab 2 25],.ret])],af [ab 26 0,bg 27 26,((some 28),.op (.make 1 4 [(.val (.int .u32 0))] (.tmp 27) (.tmp 27))),ab 4 28],ai [af [bR 5 0],fk 0 dc],af [ab 73 4,ab 74 0,bX 75 9 [73,74],ab 2 75],.ret],
 [.tmp 2],76⟩
theorem iy:aM aa 3 []=some eZ:=by kernel_rfl
theorem DP {x:List Nat} {i:Nat} (hr:eX x=true) (hi:i<(dk x).length):(dk x)[i]?=some (((bf x).getD i 0:Nat):Int)/\i<2*x.length:=by
 have a:=fu x
 simp only[dk,kq,hr,if_true,l9] at hi ⊢
 split at hi
 .rename_i h
  rw[GZ h]
  simp only[G8,HW] at hi
  simp[GY,HA,GQ,show i<(bf x).length by omega,show i<(bf x).length-1 by omega]
  omega
 .rename_i h
  rw[GV h]
  simp only[G8] at hi
  simp[GY,GQ,hi]
  omega
theorem D4 {l:List Nat} {i:Nat} (h:i<l.length):(pn l).getD i []=[V.val (.int .u32 (l.getD i 0:Nat))]:=by
 simp[GQ,h]
theorem FP {z p:Nat} (h:z<65536) (hp:p<2):j8 true .u32 (IntKind.u32.wrap (z:Int)) (16*(p:Int))=((z*65536 ^ p:Nat):Int):=by
 rw[mb (by omega)]
 rcases (by omega:p=0∨p=1) with rfl | rfl
 .simp[j8,IntKind.bits];exact mb (by omega)
 .have:(z:Int)*65536=((z*65536:Nat):Int):=by omega
  simp[j8,IntKind.bits]
  rw[this,mb (by omega)]
theorem Ev {x:List Nat} {i z:Nat} (c:i / 2<x.length) (f:(bf x).getD i 0=z) (j:z<65536) (k:x.getD (i / 2) 0<4294967296):
  ∃w:Nat,IntKind.u32.wrap ((BitVec.ofInt IntKind.u32.bits (((cl x i).getD (i / 2) 0:Nat):Int) ||| BitVec.ofInt IntKind.u32.bits (j8 true .u32 (IntKind.u32.wrap (z:Int)) (16*((i % 2:Nat):Int)))).toNat:Int)=(w:Int)/\(cl x i).set (i / 2) w=cl x (i+1):=by
 have g:=j9 x (i / 2) c
 rw[FP j (by omega)]
 rcases (by omega:i % 2=0∨i % 2=1) with h | h
 .have e:i=2*(i / 2):=by omega
  have d:=yY c
  rw[<-e] at d g
  refine⟨z,?_,by rw[<-f,g.1];exact d.2⟩
  rw[d.1,h,Nat.pow_zero,Nat.mul_one]
  have l:IntKind.u32.wrap ((BitVec.ofInt 32 ((0:Nat):Int) ||| BitVec.ofInt 32 (z:Int)).toNat:Int)=(z:Int):=by
   rw[BitVec.toNat_or,A6 (by omega),A6 (by omega),Nat.zero_or,mb (by omega)]
  exact l
 .have e:i=2*(i / 2)+1:=by omega
  have d:=AL c
  rw[<-e] at d g
  refine⟨x.getD (i / 2) 0,?_,d.2⟩
  rw[d.1,h,Nat.pow_one]
  have:=Es (a:=x.getD (i / 2) 0 % 65536) (b:=z) (by omega) j
  rw[show (IntKind.u32.wrap ((BitVec.ofInt IntKind.u32.bits ((x.getD (i / 2) 0 % 65536:Nat):Int) ||| BitVec.ofInt IntKind.u32.bits ((z*65536:Nat):Int)).toNat:Int))=_ from this]
  rw[<-f,g.2]
  omega
theorem uR {l:List Nat}:∀e∈pn l,∀v∈e,Tree v:=λe he v a=>by
 obtain⟨x,_,rfl⟩:=HL.1 he
 simp at a;subst a;exact .val _
def tO (x:List Nat) (i:Nat) (T:Env) (H:View):Prop:=aJ H (T 4) 1 (pn (cl x i))/\T 0=gL x/\T 3=encI (dk x)/\T 5=gi i
set_option maxHeartbeats 4000000 in
theorem so (x:List Nat) (q:∀v∈x,v<LB) (r:x.length<=40) (hr:eX x=true) {T:Env} {H:View} {Q:Exit->Env->View->Prop} {v:bB (T,H,Q)} (s:tO x 0 T H)
  (t:∀T H,tO x (dk x).length T H->Q (.exit 0) T H):bH aa dc T H Q v:=by
 refine bH.up (dk x).length (tO x) s ?_
 rintro i k T H u ⟨o,t0,t3,t5⟩
 simp(disch:=omega)only[↓wr,seval,wq,dc,t0,t3,t5,encI]
 apply aj.dec<;>intro hi
 .obtain⟨j,y⟩:=DP hr (i:=i) (by simpa using hi)
  have hlen:=B3 x i
  obtain⟨n,hu,m⟩:=o.sl (by simp;omega)
  have a:i / 2<x.length:=by omega
  have A:(i:Int).tdiv 2=((i / 2:Nat):Int):=by rw[Int.tdiv_eq_ediv_of_nonneg (by omega)];omega
  have b:(i:Int).tmod 2=((i % 2:Nat):Int):=by rw[Int.tmod_eq_emod_of_nonneg (by omega)];omega
  have p:=j9 x (i / 2) a
  have d:x.getD (i / 2) 0<4294967296:=q _ (HD (getD_some a))
  have B:(bf x).getD i 0<65536:=by
   rcases (by omega:i=2*(i / 2)∨i=2*(i / 2)+1) with h | h
   .rw[h,p.1];omega
   .rw[h,p.2];omega
  have e:=D4 (l:=cl x i) (i:=i / 2) (by omega)
  have f:dd (T 4)=some x.length:=by rw[o.len];simp[hlen]
  generalize g:(bf x).getD i 0=z at *
  have C:decide ((z:Int)<0)=false:=by simp
  have D:decide ((z:Int)>65535)=false:=by simp;omega
  have E:decide (((i / 2:Nat):Int)≥(x.length:Int))=false:=by simp;omega
  simp(disch:=omega)only[↓wr,seval,wq,t0,t3,t5,encI,GY,j,Hb,A,b,f,C,D,E]
  simp(disch:=omega)only[↓wr,seval,wq,t0,t3,t5,hu]
  refine⟨by omega,?_⟩
  simp(disch:=omega)only[↓wr,seval,wq,t0,t3,t5,hu,m]
  refine⟨by omega,by rw[e];simp,?_⟩
  rw[e]
  simp(disch:=omega)only[↓wr,seval,wq,t0,t3,t5,encI,GY,j,Hb,b,hu,m]
  obtain⟨w,F,c⟩:=Ev a g B d
  refine⟨by omega,by omega,by omega,bC u (by omega) ⟨?_,t0,t3,rfl⟩⟩
  rw[F,e,<-c]
  show aJ _ (T 4) 1 _
  rw[hu]
  have:=aJ.new (H:=H) (n:=n) (sz:=1) (es:=pn ((cl x i).set (i / 2) w))
  simpa [List.map_set] using this
 .have:i=(dk x).length:=by omega
  subst this
  simp(disch:=omega)only[↓wr,seval,wq]
  exact t _ _ ⟨o,t0,t3,t5⟩
set_option maxHeartbeats 8000000 in
theorem zT (x:List Nat) (a:aF x) (f:∀v∈x,v<LB):ak aa 3 [gL x] (gb true):=by
 refine ak.val (j4 x) λH=>?_
 have k:=oW x a
 have l:=Ac x a f
 have m:=wu x a f
 unfold aF at a
 refine ar.of mixed iy ?_
 simp(disch:=omega)only[↓wr,seval,wq,eZ]
 refine av.pure DI ?_
 simp(disch:=omega)only[↓wr,seval,wq]
 apply aj.dec<;>intro g
 .simp(disch:=omega)only[↓wr,seval,wq]
 simp(disch:=omega)only[↓wr,seval,wq]
 refine av.pure l.pure ?_
 simp(disch:=omega)only[↓wr,seval,wq]
 refine av.pure m.pure ?_
 simp(disch:=omega)only[↓wr,seval,wq]
 have i:aF (dk x):=by
  have o:=fp x
  unfold aF dk kq
  split
  .unfold l9
   have p:=fu x
   split<;>simp<;>omega
  .simp
 refine av.pure (En _ _ i) ?_
 rw[beq_self_eq_true]
 simp(disch:=omega)only[↓wr,seval,wq]
 refine av.pure k ?_
 simp(disch:=omega)only[↓wr,seval,wq]
 apply aj.split<;>intro hr
 .simp(disch:=omega)only[↓wr,seval,wq]
  have b:x.length<=40:=by omega
  have fin:∀T H',tO x (dk x).length T H'->aJ H' (T 4) 1 (pn x):=λT H' h=>by
   have:=h.1
   have e:cl x (dk x).length=x:=by
    have:(dk x).length=(l9 (bf x)).length:=by simp[dk,kq,hr]
    rw[this];exact zh
   rwa [e] at this
  refine⟨⟨GX _,by unfold aD;omega,by unfold aD;omega⟩,λc=>?_,λc n q=>?_⟩
  .refine so x f b hr ⟨by simp(disch:=omega)only[↓wr,seval,wq];rw[HM.1 c];exact .nil,rfl,rfl,rfl⟩ λT H' d=>?_
   simp(disch:=omega)only[↓wr,seval,wq,d.2.1]
   refine av.CC (su x x a) (by kernel_rfl) (.val _) ⟨dY.own (fin _ _ d) uR,dY.tree (kF x),trivial⟩ ?_
   rw[beq_self_eq_true]
   simp(disch:=omega)only[↓wr,seval,wq]
  .refine so x f b hr ⟨by
    simp(disch:=omega)only[↓wr,seval,wq]
    have:=aJ.new (H:=H) (n:=n) (sz:=1) (es:=pn (cl x 0))
    rw[zy] at this ⊢
    simpa using this,rfl,rfl,rfl⟩ λT H' d=>?_
   simp(disch:=omega)only[↓wr,seval,wq,d.2.1]
   refine av.CC (su x x a) (by kernel_rfl) (.val _) ⟨dY.own (fin _ _ d) uR,dY.tree (kF x),trivial⟩ ?_
   rw[beq_self_eq_true]
   simp(disch:=omega)only[↓wr,seval,wq]
 .have j:dk x=[]:=by simp[dk,kq,hr]
  simp(disch:=omega)only[↓wr,seval,wq,j,encI,List.map_nil]
end Gv
set_option linter.unusedSimpArgs false
set_option maxRecDepth 100000
namespace Go.Proofs.YtoamakccoedejaaGreatDoor
open Go Go.ChangeShapes Go.WideShapes Go.ChangeAt Go.WideMaps Go.WideElems Go.RowKit Gv
theorem own:ownKnob aa.godebug=none:=by kernel_rfl
theorem laidOut:laidOutB aa=true:=by kernel_rfl
theorem CF {w w':World} (h:bZ w w') (k:cT w.heap w'.heap (λ_=>False)):Below w.heap.size w w':=
 ⟨h.os,h.tape,h.output,h.size,λb a=>k b a id⟩
abbrev jL:List (String × DataW Unit):=Rows.replayHalvesRow.laid
theorem F2:aa.globalNamed "math/bits.deBruijn32tab" = some 0:=by kernel_rfl
theorem Gr:(aa.globals[0]?).map (·.type)=some 466:=by kernel_rfl
theorem F5:aa.underlying 466=some (.array 32 5):=by kernel_rfl
theorem CU (os:Os) (args:Array Value):laidMetH aa jL ((World.doorLaid aa 400 os).forCall (λ_ _=>0) ⟨#[],args,[]⟩).memory:=
 laidMetH_of_parts3 (fuel:=8) (laidMet_of_run' 8 (by kernel_rfl) (by kernel_rfl)) (by kernel_rfl) (by kernel_rfl)
abbrev Ck:List Int:=[0,1,28,2,29,14,24,3,30,22,20,15,25,17,4,8,31,27,13,23,21,19,16,7,26,12,18,6,11,5,10,9]
theorem DT {W:World} (h:laidMetH aa jL W):Gl (λb=>b<W.heap.size) W.heap:=by
 rw[MakeChecks.laidMetH_plain _ _ _ (by kernel_rfl)] at h
 obtain⟨D,⟨g0,t0,i,f0,E,F,d,j,m,o,_,_⟩,_,_⟩:=h
 obtain rfl:=H6 (F2.symm.trans d)
 obtain rfl:=H6 (Gr.symm.trans j)
 obtain⟨xs,G,rfl,e,hlen,w,q⟩:=DataW.trod_array F5 o
 have ce:aa.cellsOf 5=1:=by kernel_rfl
 have a:∀k v,(Ck.map (Value.int .u8))[k]?=some v->cellAt W.heap 0 k=some v:=λk v c=>by
  have x:k<32:=by
   have:=(Ha.1 c).1
   simpa using this
  have r:xs.map (·.1)=Ck.map λn=>DataW.lit (.int .u8 n):=by
   simp only[G6,Rows.laid_math_bits_deBruijn32tab,DataW.agg.injEq] at e
   exact e.1.symm
  have s:=q k x
  rw[ce,Nat.mul_one] at s
  have f:k<xs.length:=by omega
  rw[GR f] at s
  obtain⟨n,y,z,_⟩:=DataW.trod_int Tryz.underlying5 s
  have g:(xs.map (·.1))[k]?=some (DataW.lit (.int .u8 n)):=by rw[GY,GR f,Hb,z]
  rw[r,GY] at g
  rw[GY] at c
  cases t:Ck[k]? with
  | none=>rw[t] at c;cases c
  | some A =>
   rw[t] at c g
   simp only[Hb,GS,DataW.lit.injEq,Lit.int.injEq,true_and] at c g
   subst c;subst g
   have u:=World.var?_cell d m k
   rw[dw] at u
   rw[u,<-Ib]
   have B:(i.toList.drop k)[0]?=some (Value.int .u8 A):=by
    have:=congrArg (λl=>l[0]?) y
    simpa [HA] using this
   simpa using B
 intro p hp
 simp only[yW,HH] at hp
 subst hp
 refine⟨?_,λk v c=>⟨a k v c,?_⟩⟩
 .have:=a 0 _ rfl
  unfold cellAt at this
  split at this
  .rename_i C
   exact(Array.getElem?_eq_some_iff.1 C).1
  .cases this
 .obtain⟨n,_,rfl⟩:=HL.1 (HD c)
  rfl
theorem Ex:B4 aa 29 (λn:Nat=>[V.val (.int .u32 (n:Int))]) (λn=>n<LB):=λenc w base sp held fuel cs x h hw=>by
 obtain⟨n,a,b⟩:=ET Tryz.underlying29 enc w base sp held fuel cs x h hw
 have c:0<=n/\n<=4294967295:=by
  simp only[Lit.wf,G0,G7] at a
  exact a
 refine⟨n.toNat,by unfold LB;omega,?_⟩
 simpa [Int.toNat_of_nonneg c.1] using b
theorem D5:B4 aa 23 (λl:List Nat=>[gL l]) (λl=>aF l/\∀x∈l,x<LB):=
 CK Tryz.underlying23 (of_decide_eq_true (by kernel_rfl)) (of_decide_eq_true (by kernel_rfl)) Ex
set_option maxHeartbeats 2000000 in
theorem mU (os:Os) (started:os.Started) (H:Type) (enc:TypeId × Value->H):
  ReturnsInHanded {} Tryz.checked os 3 .any (λw args=>(Rows.replayHalvesSpec.pre enc aa Tryz.f3 [] false w args/\laidMetH aa jL w)/\sizedMet enc aa Tryz.f3 (OpenSpec.ofChange Rows.replayHalvesSpec) false w args)
   (Rows.replayHalvesSpec.post enc aa Tryz.f3 false true false false):=by
 refine returnsInHanded_of_change_and (C:=Tryz.checked) (X:=λw _=>laidMetH aa jL w) (λ_ _ _ I h=>h.of_heap I) own started (by kernel_rfl) Tryz.func3
  (ChangeSpec.witness_shaped (enc:=enc) (C:=Tryz.checked) (os:=os) (X:=λw _=>laidMetH aa jL w) false (World.doorLaid aa 400 os) #[.slice none 0 0] 8 rfl (World.shaped_of_RefB (by kernel_rfl) (by kernel_rfl)) (by kernel_rfl) (by kernel_rfl) (by kernel_rfl) (CU os _)) ?_
 intro W base args J gs before g E _ z K _
 have f:∀(j:Nat) t v,Tryz.f3.params[j]?=some t->args[j]?=some v->Value.okWide aa W .any base t v:=g
 have k:=E
 obtain⟨p,q,A,L,rfl,M,N⟩:=E
 have F:DataW.TrodAll enc aa W 0 (λ_=>true) true Tryz.f3.params.toList args.toList J p:=A
 have s:=k.lt
 rw[Tryz.params3] at F f
 obtain⟨v0,d0,rfl,rfl,O⟩:=trodAll_one F
 obtain⟨rfl,rfl⟩:=trodVars_none L
 obtain⟨l,fj,m,rfl⟩:=okWide_slice Tryz.underlying23 (f 0 23 v0 rfl rfl)
 obtain⟨a,u⟩:=O
 have B:Wt aa 23 d0:=λn P=>by
  have:=Hg.1 z n (DataW.weights_mem_each (j:=0) (t:=23) (d:=d0) rfl rfl n P)
  simpa using this
 obtain⟨Q,y,o⟩:=D5 enc W 0 (λ_=>true) true a [.slice l fj m] (d0,p) u B
 have R:=zT Q y.1 y.2 (λb=>b<W.heap.size) (λ_=>none) W [.slice l fj m] ⟨rfl,λi hi=>by
  match i,hi with
  | 0,_=>exact o.2 (λ_=>none) 0 (by simp)⟩ (λ_ h=>h) (DT K)
 refine R.mono ?_
 rintro e S ⟨x,Z',rfl,T,r,_,_,hold⟩
 have G:=CF r hold
 have D:x=.bool true:=by
  have:=T λ_=>none
  cases this
  rfl
 subst D
 simp only[List.append_nil] at k s
 have c:DataW.Trod enc aa S 0 (λb=>decide (b<W.heap.size)) true 23 (.slice l fj m) d0 p:=
  Below.trod laidOut (by kernel_rfl) (of_decide_eq_true (by kernel_rfl)) ⟨a,u⟩ G s
 refine⟨_,rfl,_,_,_,[],p,[],k,trodAll_mk1 (shut_bool (by kernel_rfl) true),trodAll_mk1 c,rfl,G.frame _,λh=>by cases h⟩
noncomputable abbrev jP:Program:=Tryz.checked.prog
noncomputable abbrev jN:Nat:=3
noncomputable abbrev jF:Func:=Tryz.f3
noncomputable abbrev jS:ChangeSpec:=Rows.replayHalvesSpec
noncomputable abbrev jC:OpenClaim:=Rows.replayHalvesRow
theorem cF {a b:Bool} (h:a=true) (k:b=true):(a&&b)=true:=by rw[h,k];rfl
theorem GK:(jC.wf (OpenSpec.ofChange jS))=true:=by kernel_rfl
theorem GD:(laidOutB jP)=true:=by kernel_rfl
theorem GH:(mapsRowed jP)=true:=by kernel_rfl
theorem GA:(jF.params.all (jP.readableRec ·))=true:=by kernel_rfl
theorem GL:(namedTie jP jC.named jS.vars)=true:=by kernel_rfl
theorem GG:((jC.stops==[]))=true:=by kernel_rfl
theorem GF:((jP.stops==[]))=true:=by kernel_rfl
theorem GB:((jC.knobs==[]))=true:=by kernel_rfl
theorem GM:((jP.stopKnobs==[]))=true:=by kernel_rfl
theorem GI:((jC.inPlace==jP.inPlace jN))=true:=by kernel_rfl
theorem Gu:((jC.unfollowed==jP.unfollowed jN))=true:=by kernel_rfl
theorem Gx:((jC.recurses==jP.recurses jN))=true:=by kernel_rfl
theorem FW:((jC.named==jP.varsNamed jN))=true:=by kernel_rfl
theorem Gj:((jC.maps==(jF.params.toList++jS.plain.varTypes jP).any (jP.mapsRec ·)))=true:=by kernel_rfl
theorem FM:((jC.ifaces==(jF.params.toList++jS.plain.varTypes jP).any (jP.ifacesRec ·)))=true:=by kernel_rfl
theorem Ga:((jC.mapsOut==jP.mapsAmong jF.resultTypes.toList))=true:=by kernel_rfl
theorem FX:((jC.loops==(jF.params.toList++jS.plain.varTypes jP).any (jP.loopsFrom ·)))=true:=by kernel_rfl
theorem Gd:((jC.wideKeys==(jF.params.toList++jS.plain.varTypes jP++jF.resultTypes.toList).any (jP.wideKeysFrom ·)))=true:=by kernel_rfl
theorem Gm:(jS.vars.all (jP.varReadable ·))=true:=by kernel_rfl
theorem F7:(jF.resultTypes.all (λt=>jP.readableRec t&&decide (t<jP.types.size)))=true:=by kernel_rfl
theorem FU:((jC.ifacesOut==jF.resultTypes.toList.any (jP.ifacesRec ·)))=true:=by kernel_rfl
theorem FV:((jC.loopsOut==jF.resultTypes.toList.any (jP.loopsFrom ·)))=true:=by kernel_rfl
theorem Gn:((jC.plainKeys==jP.plainKeys))=true:=by kernel_rfl
theorem F8:(jC.shortTexts.isNone)=true:=by kernel_rfl
theorem F4:(jP.stopsHeard)=true:=by kernel_rfl
theorem Gz:(jP.mayEnter)=true:=by kernel_rfl
theorem F1:((jC.lifted==jP.liftsFinal))=true:=by kernel_rfl
theorem Gt:((jP.make==some jC.make))=true:=by kernel_rfl
theorem Gi:((jC.kinds==(if jC.domain.isEmpty then [] else jF.params.toList.map λt=>match jP.underlying t with | some (.int k)=>some k | _=>none)))=true:=by kernel_rfl
theorem F3:((jC.pinned==jC.pinnedBy))=true:=by kernel_rfl
theorem Gh:((jC.veiled==(jF.params.toList++jS.plain.varTypes jP++jF.resultTypes.toList).any (jP.veiledRec ·)))=true:=by kernel_rfl
theorem FY:(jC.veiledFits jP jF.params.toList (jF.params.toList++jS.plain.varTypes jP++jF.resultTypes.toList))=true:=by kernel_rfl
theorem Gq:joinedFacts jP jN jF jS jC=true:=cF (cF (cF (cF (cF (cF (cF (cF (cF (cF (cF (cF (cF (cF (cF (cF (cF (cF (cF (cF (cF (cF (cF (cF (cF (cF (cF (cF (cF (cF (cF (GK) GD) GH) GA) GL) GG) GF) GB) GM) GI) Gu) Gx) FW) Gj) FM) Ga) FX) Gd) Gm) F7) FU) FV) Gn) F8) F4) Gz) F1) Gt) Gi) F3) Gh) FY
theorem replayHalves_holds:Rows.ReplayHalvesSaid:=
 OpenClaim.holds_of_wide 3 Tryz.f3 rfl rfl rfl rfl rfl rfl rfl ⟨rfl,rfl,rfl,rfl,rfl⟩ rfl rfl rfl rfl rfl (by kernel_rfl) Tryz.func3 Gq
  (of_decide_eq_true (by kernel_rfl)) (by unfold Func.isWrapper;rw[GV (by decide +kernel)];exact⟨rfl,rfl⟩)
  (λos started H enc _=>mU os started H enc)
end Go.Proofs.YtoamakccoedejaaGreatDoor
