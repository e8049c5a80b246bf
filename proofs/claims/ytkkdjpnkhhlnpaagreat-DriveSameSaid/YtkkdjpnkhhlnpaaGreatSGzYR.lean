/-
  Part 18 of the proof: what the machine does and what the functions answer.
  Conditions: those that each lemma names.
-/
import Derived.Test.YtkkdjpnkhhlnpaaGreatSGzYQ
set_option linter.unusedSimpArgs false
set_option linter.unusedVariables false
set_option maxRecDepth 100000
namespace Gv
open Go Go.Proofs
theorem DT:∀ (l:List ej) (a:List Cell),∀ c∈ix l a,c∈a∨∃ x∈l,c=x.cell
  | [],a,c,h=>.inl h
  | x :: l,a,c,h=>by
    rcases DT l (a.set x.eP.toNat x.cell) c h with h | ⟨y,hy,e⟩
    · rcases List.mem_or_eq_of_mem_set h with h | h
      · exact .inl h
      · exact .inr ⟨x,by simp,h⟩
    · exact .inr ⟨y,by simp[hy],e⟩
theorem Ew:∀ (l:List de) (a:List Int),∀ c∈jH l a,c∈a∨∃ x∈l,c=x.to
  | [],a,c,h=>.inl h
  | x :: l,a,c,h=>by
    rcases Ew l (a.set x.sym.toNat x.to) c h with h | ⟨y,hy,e⟩
    · rcases List.mem_or_eq_of_mem_set h with h | h
      · exact .inl h
      · exact .inr ⟨x,by simp,h⟩
    · exact .inr ⟨y,by simp[hy],e⟩
theorem Lb {p:ju} (hp:p.Ok) (h:iF p=true):(ec p).Ok:=by
  obtain ⟨⟨q1,q2,q3,q4,q5,q6,q7,q8,q9⟩,hof,hto,_,_⟩:=Cy h
  refine ⟨by simp[ec,aL]; omega,by simp[ec,aL]; omega,fun r hr=>?_,fun r hr=>?_⟩
  · simp only[ec,List.mem_map] at hr
    obtain ⟨n,hn,rfl⟩:=hr
    have hrow:=List.mem_of_getElem? (getD_some (d:=[]) (show n.toNat < p.rows.length by have:=hof n hn; omega))
    refine ⟨by unfold aL; rw[tx]; simp; omega,fun c hc=>?_⟩
    rcases DT _ _ c hc with hc | ⟨x,hx,rfl⟩
    · rw[(List.mem_replicate.1 hc).2]; unfold bJ; decide
    · exact ((hp.row _ hrow).2 x hx).2
  · simp only[ec,List.mem_map] at hr
    obtain ⟨n,hn,rfl⟩:=hr
    have hrow:=List.mem_of_getElem? (getD_some (d:=[]) (show n.toNat < p.gotos.length by have:=hto n hn; omega))
    refine ⟨by unfold aL; rw[qn]; simp; omega,fun c hc=>?_⟩
    rcases Ew _ _ c hc with hc | ⟨x,hx,rfl⟩
    · rw[(List.mem_replicate.1 hc).2]; unfold bJ; decide
    · exact ((hp.go _ hrow).2 x hx).2
def runK (g:ay) (p:ju) (w:List Int):List Int × Int × Int:=if iF p=true then gU g (ec p) w else ([],0,1)
theorem OX (g:ay) (p:ju) (w:List Int):∀ v∈[V.agg (aw g),.agg (cP p),encI w],Tree v:=by
  intro v hv; simp at hv
  rcases hv with rfl | rfl | rfl
  · exact bL _ (bU g)
  · exact bL _ (Cg p)
  · exact cF w
theorem QC {h:aH} {u:V} {x:List Int × Int × Int} (hu:Fr h u (encI x.1)):Fr h (.bf [u,gi x.2.1,gi x.2.2]) (sR x):=.bf _ _ rfl fun i hi=>by
  match i,hi with
  | 0,_=>exact hu
  | 1,_=>exact .tree _ (.val _)
  | 2,_=>exact .tree _ (.val _)
def z1:SF:=⟨.seq (ak [bW 3 0,bW 4 1,((some 6),.op (.bo (.val (.emp 1)))),aI 7 0,aI 8 0]) <|
  .seq (ak [aO 12 6 4,aQ 13 61 [12],aa 11 13,bH 14 0 11,bH 15 1 11,((some 9),.op (.alloc [(.emp 1),(.emp 1)])),(none,.op (.store 2 (.tmp 9) (.tmp 14))),aa 10 15]) <|
  .seq (.seq (ak [aa 16 10,az 17 .neq 16 0]) <|
  .cond (.tmp 17) (.seq (ak [aa 18 10,((some 6),.op (.bo (.val (.emp 1)))),aI 7 0,aa 8 18]) <|
  .ret) (.skip)) <|
  .seq (ak [aO 19 4 3,aO 20 2 9,aa 21 2,aQ 22 19 [19,20,21],bH 23 0 22,bH 24 1 22,bH 25 2 22,aa 6 23,aa 7 24,aa 8 25]) <|
  .ret,
  [.tmp 6,.tmp 7,.tmp 8],26⟩
theorem CU:aY Tryz.prog 20 [3,4]=some z1:=by kernel_rfl
set_option maxHeartbeats 4000000 in
theorem Qm (g:ay) (hg:g.Ok) (hsm:g.Small) (p:ju) (hp:p.Ok) (w:List Int) (hw:aL w) (hn:∀ x∈w,bJ x):aD Tryz.prog 20 [.agg (aw g),.agg (cP p),encI w] (sR (runK g p w)):=by
  refine aD.of (OX g p w) ?_
  have h1:=(B9 p hp).pure
  refine aC.of mixed CU ?_
  simp only[cP,encI] at h1
  simp (disch:=omega) only [↓wr,↓reduceIte,wq,ah,Nat.reduceEqDiff,Nat.reduceAdd,Nat.reduceLeDiff,z1,aw,encS,cP,encI]
  refine aE.pure h1 (by kernel_rfl) ?_
  unfold runK
  by_cases hr:iF p=true
  · rw[if_pos hr,if_pos hr]
    have h2:=(mw g hg hsm (ec p) (Lb hp hr) w hw hn).pure
    simp only[aw,encS,bu,encI] at h2
    simp (disch:=omega) only [↓wr,↓reduceIte,wq,ag,ab,Nat.reduceEqDiff,Nat.reduceAdd,Nat.reduceLT,Nat.reduceLeDiff,bu]
    intro b
    rw[set_set]
    refine av.ne (fun h=>absurd rfl h) (fun _=>?_)
    simp (disch:=omega) only [↓wr,↓reduceIte,wq,Nat.reduceEqDiff,Nat.reduceAdd,Nat.reduceLT,Nat.reduceLeDiff,encI]
    refine aE.pure h2 (by kernel_rfl) ?_
    simp (disch:=omega) only [↓wr,↓reduceIte,wq,Nat.reduceEqDiff,Nat.reduceAdd,Nat.reduceLT,reduceCtorEq,sR]
    intro h' _
    exact .tree _ (Nr (gU g (ec p) w))
  · rw[if_neg hr,if_neg hr]
    simp (disch:=omega) only [↓wr,↓reduceIte,wq,ag,ab,Nat.reduceEqDiff,Nat.reduceAdd,Nat.reduceLT,Nat.reduceLeDiff,bu]
    intro b
    rw[set_set]
    refine av.ne (fun _=>?_) (fun h=>absurd h (by decide))
    simp (disch:=omega) only [↓wr,↓reduceIte,wq,Nat.reduceEqDiff,reduceCtorEq]
    intro h' _
    exact QC (x:=([],0,1)) (.emp _)
def NF:List (FuncId × DF):=[(15,ot),(20,Ai)]
theorem LV:tW Tryz.prog NF:=by
  intro p hp
  simp only[NF,List.mem_cons,List.not_mem_nil,or_false] at hp
  rcases hp with rfl | rfl
  · exact ⟨_,uP⟩
  · exact ⟨_,CT⟩
theorem lT.Ok.known {P:Program} {f:FuncId} {vs:List V} {t:V} (hc:aD P f vs t) (hk:dd P f=true):lT.Ok P (f,vs,t,true):=⟨hk,by simp only[if_true]; exact hc⟩
theorem BT:lC jt 1 1:=⟨by decide,by decide,by decide,by decide,by decide,by decide,by decide⟩
theorem PZ:cH Tryz.prog 61 [.agg (cP (fS jt))] (.bf [.agg (bu jt),gi 0]):=by
  have h:=B9 (fS jt) (Iu C8 BT)
  rw[if_pos (CB BT),Ar BT] at h
  exact h
def QV:List lT:=(18,[.agg (bu jt)],.bf [.agg (cP (fS jt)),gi 0],true) :: (61,[.agg (cP (fS jt))],.bf [.agg (bu jt),gi 0],false) ::
  (52,[wA Pz],me fh,false) :: (52,[wA PR],me gN,false) :: (52,[wA PM],me nQ,false) ::
  (17,[.agg (aw fh)],M1,false) :: (17,[.agg (aw gN)],LM,false) :: (17,[.agg (aw nQ)],NQ,false) ::
  (19,[.agg (aw fh),.agg (bu jt),encI [1]],sR ([],0,1),false) :: (19,[.agg (aw gN),.agg (bu sV),encI [0]],sR ([],0,14),false) :: (19,[.agg (aw nQ),.agg (bu CG),encI [0,0]],sR ([],1,3),false) ::
  (21,[encI [1,0,0],encI [1,0,0]],gb true,false) :: (53,[.agg (aw fh),encI [0]],gb true,false) :: (53,[.agg (aw fh),encI [-1]],gb false,false) :: Pw
theorem M7:∀ x∈QV,x.Ok Tryz.prog :=
  ext_cons (.known (DN _ BT) (by kernel_rfl)) <| ext_cons (.new PZ (by kernel_rfl)) <|
  ext_cons (.new RJ (by kernel_rfl)) <| ext_cons (.new RQ (by kernel_rfl)) <| ext_cons (.new RK (by kernel_rfl)) <|
  ext_cons (.new NB (by kernel_rfl)) <| ext_cons (.new Ng (by kernel_rfl)) <| ext_cons (.new NT (by kernel_rfl)) <|
  ext_cons (.new (PV ▸ mw fh gT.1 gT.2 jt C8 [1] (lS (by decide)) (r7 (by kernel_rfl))) (by kernel_rfl)) <|
  ext_cons (.new (RH ▸ mw gN yU.1 yU.2 sV P3 [0] (lS (by decide)) (r7 (by kernel_rfl))) (by kernel_rfl)) <|
  ext_cons (.new (RB ▸ mw nQ zn.1 zn.2 CG Ql [0,0] (lS (by decide)) (r7 (by kernel_rfl))) (by kernel_rfl)) <|
  ext_cons (.KK ((show ([1,0,0]:List Int) == [1,0,0] by kernel_rfl) ▸ Dp [1,0,0] [1,0,0] (lS (by decide))) (by kernel_rfl)) <|
  ext_cons (.KK ((show nH fh [0]=true by kernel_rfl) ▸ A5 fh gT.1 gT.2 [0] (lS (by decide)) (r7 (by kernel_rfl))) (by kernel_rfl)) <|
  ext_cons (.KK ((show nH fh [-1]=false by kernel_rfl) ▸ A5 fh gT.1 gT.2 [-1] (lS (by decide)) (r7 (by kernel_rfl))) (by kernel_rfl)) O4
theorem Ig:aD Tryz.prog 15 [] (gb true) :=
  (rB mixed LV (GA M7) (by simp) (by kernel_rfl)).pure
theorem QL {g:ay} {a:List bt} : ∀ i:Nat,∀ p∈(fi g a).getD i [],∃ x∈dA g (a.getD i cK).bG,(bI g x).2=false∧0≤x.aP∧p.aP=x.aP:=by
  intro i p hp
  rcases Nat.lt_or_ge i a.length with hi | hi
  · have e:(fi g a).getD i []=iC g a i:=by rw[fi,List.getD_eq_getElem?_getD,List.getElem?_map,List.getElem?_range hi]; rfl
    rw[e,iC,List.mem_filterMap] at hp
    obtain ⟨x,hx,h⟩:=hp
    have hc:(aW g a).getD i []=dA g (a.getD i cK).bG:=by
      rw[List.getD_eq_getElem?_getD,D6 (getD_some (d:=cK) hi)]; rfl
    rw[hc] at hx
    split at h
    · rename_i hcnd
      simp only[Option.some.injEq] at h
      subst h
      exact ⟨x,hx,hcnd.1,hcnd.2,rfl⟩
    · simp at h
  · rw[fi,List.getD_eq_getElem?_getD,List.getElem?_eq_none (by simp; omega)] at hp
    simp at hp
structure Ra (g:ay) (a:List bt):Prop where
  Tn:g.dU
  ok:B1 g a
  Kn:j2 g a
  qQ:1≤a.length
  len:a.length≤300
  jj:(dw g).1=im g a (fi g a) a.length
  shape:lC (dw g).1 g.ax.length g.aA.length
  tok:(dw g).1.Ok
  Rn:(dw g).2.1=pk g a (fi g a) a.length
theorem Pe {a:List bt} (h1:1≤a.length) (i k:Int) : -1≤rM a i k∧rM a i k < a.length:=by
  unfold rM
  split
  · unfold ga
    split
    · simp only; omega
    · have:=tL (a:=a) [-1 - k] i (by omega) (by omega)
      omega
  · omega
theorem OD {g:ay} (hg:g.Ok) (h:(dw g).2.2=0):Ra g (bV g).1:=by
  have hz:(bV g).2=0:=by
    unfold dw at h
    split at h
    · assumption
    · exact h
  obtain ⟨hW,hA⟩:=xk hg hz
  have hf:=cn hW.right
  have hE:=Kx hf hz
  have hl1:=hW.qQ
  have hl3:=hW.short
  have hN:=hf.aA; have hT:=hf.ax; have hR:=hf.rules
  have ht:(dw g).1=im g (bV g).1 (fi g (bV g).1) (bV g).1.length:=by
    unfold dw
    rw[if_pos hz]
    simp only[rK,if_pos hz]
  have hc:(dw g).2.1=pk g (bV g).1 (fi g (bV g).1) (bV g).1.length:=by
    unfold dw
    rw[if_pos hz]
    simp only[rK,if_pos hz]
  refine ⟨hf,hA,hE,hl1,hl3,ht,?_,?_,hc⟩
  · rw[ht]
    refine ⟨hT,hN,by simp[im]; omega,by simp[im]; omega,by simp[im],fun r hr=>?_,fun r hr=>?_⟩
    · simp only[im,List.mem_map] at hr
      obtain ⟨i,_,rfl⟩:=hr
      simp[gM]
    · simp only[im,List.mem_map] at hr
      obtain ⟨i,_,rfl⟩:=hr
      simp[AB]
  · rw[ht]
    refine ⟨by simp[im,aL]; omega,by simp[im,aL]; omega,fun r hr=>?_,fun r hr=>?_⟩
    · simp only[im,List.mem_map,List.mem_range] at hr
      obtain ⟨i,hi,rfl⟩:=hr
      refine ⟨by simp[gM,aL]; omega,fun c hc=>?_⟩
      simp only[gM,List.mem_map,List.mem_range] at hc
      obtain ⟨k,hk,rfl⟩:=hc
      have hm:=List.mem_of_getElem? (getD_some (d:=cK) hi)
      rcases Lj g ((bV g).1.getD i cK) ((fi g (bV g).1).getD i []) i k with ⟨e,he,_,h⟩ | ⟨p,hp,h⟩ | ⟨_,_,h⟩ | h
      · have:=hA.to _ hm e he
        rw[h]; simp only[bJ]; omega
      · obtain ⟨x,hx,_,h0,hr⟩:=QL i p hp
        have hxH:=((jU hf (hA.bG _ hm).2.2).1 hx).has (hA.bG _ hm).2.2
        have:=hxH.1
        rw[h]; simp only[bJ]; omega
      · rw[h]; simp only[bJ]; omega
      · rw[h]; simp only[bJ]; omega
    · simp only[im,List.mem_map,List.mem_range] at hr
      obtain ⟨i,hi,rfl⟩:=hr
      refine ⟨by simp[AB,aL]; omega,fun x hx=>?_⟩
      simp only[AB,List.mem_map,List.mem_range] at hx
      obtain ⟨k,hk,rfl⟩:=hx
      have:=Pe (a:=(bV g).1) hl1 i k
      simp only[bJ]; omega
theorem QP (g:ay) (t:dx) (w:List Int):∀ (k:Nat) (st rs:List Int) (at_:Nat),at_≤w.length→0≤(iq g t w k st rs at_).2.1∧(iq g t w k st rs at_).2.1≤w.length:=by
  intro k
  induction k with
  | zero =>
    intro st rs at_ h
    rw[mz]
    split
    · simp only; omega
    · split <;> (simp only; omega)
  | succ k ih =>
    intro st rs at_ h
    rw[mz]
    split
    · simp only; omega
    · rename_i h1
      split
      · simp only; omega
      · rename_i h2
        simp only
        split
        · rename_i h3
          exact ih _ _ _ (by
            rcases Nat.lt_or_ge at_ w.length with h | h
            · omega
            · exact absurd (.inr (.inr ⟨h3,by omega⟩)) h2)
        · split
          · simp only; omega
          · split
            · simp only; omega
            · exact ih _ _ _ h
theorem NA (g:ay) (t:dx) (w:List Int):0≤(gU g t w).2.1∧(gU g t w).2.1≤w.length:=by
  rw[ki]
  split
  · exact QP g t w 2000 [0] [] 0 (Nat.zero_le _)
  · simp only; omega
def kR:SF:=⟨.seq (ak [bW 2 0,aZ 4 false]) <|
  .seq (.seq (ak [aQ 16 15 [],bX 17 16]) <|
  .cond (.tmp 17) (.seq (ak [aZ 4 false]) <|
  .ret) (.skip)) <|
  .seq (.seq (.region false [⟨none,[aO 18 4 2,aQ 19 16 [18],aa 20 19]⟩,⟨(some (20,false)),[aa 21 1,aM 22 21,az 23 .gtr 22 100]⟩,⟨none,[bB 24 20 23]⟩]) <|
  .cond (.tmp 24) (.seq (ak [aZ 4 true]) <|
  .ret) (.skip)) <|
  .seq (ak [aO 26 4 2,aQ 27 17 [26],aa 25 27,bH 28 0 25,bH 29 1 25,bH 30 2 25,((some 5),.op (.alloc [(.emp 1),(.emp 1)])),(none,.op (.store 2 (.tmp 5) (.tmp 28))),aa 6 29,aa 7 30]) <|
  .seq (.seq (ak [aa 31 7,az 32 .neq 31 0]) <|
  .cond (.tmp 32) (.seq (ak [aZ 4 true]) <|
  .ret) (.skip)) <|
  .seq (ak [aO 34 2 5,aQ 35 18 [34],aa 33 35,bH 36 0 33,bH 37 1 33,((some 8),.op (.alloc [(.val (.int .i64 0)),(.val (.int .i64 0)),(.emp 1),(.emp 1),(.emp 1),(.emp 1)])),(none,.op (.store 6 (.tmp 8) (.tmp 36))),aa 9 37]) <|
  .seq (ak [aO 39 4 2,aO 40 2 5,aa 41 1,aQ 42 19 [39,40,41],aa 38 42,bH 43 0 38,bH 44 1 38,bH 45 2 38,aa 10 43,aa 11 44,aa 12 45]) <|
  .seq (ak [aO 47 4 2,aO 48 6 8,aa 49 1,aQ 50 20 [47,48,49],aa 46 50,bH 51 0 46,bH 52 1 46,bH 53 2 46,aa 13 51,aa 14 52,aa 15 53]) <|
  .seq (.region false [⟨none,[aa 54 10,aa 55 13,aQ 56 21 [54,55],aa 57 56]⟩,⟨(some (57,true)),[aa 58 11,aa 59 14,aR 60 .eql 58 59]⟩,⟨none,[bF 61 57 60,aa 62 61]⟩,⟨(some (62,true)),[aa 63 12,aa 64 15,aR 65 .eql 63 64]⟩,⟨none,[bF 66 62 65,aa 67 66]⟩,⟨(some (67,true)),[aa 68 11,az 69 .geq 68 0]⟩,⟨none,[bF 70 67 69,aa 71 70]⟩,⟨(some (71,true)),[aa 72 11,aa 73 1,aM 74 73,aR 75 .leq 72 74]⟩,⟨none,[bF 76 71 75,aa 4 76]⟩]) <|
  .ret,
  [.tmp 4],77⟩
theorem qY:aY Tryz.prog 3 [2]=some kR:=by kernel_rfl
theorem O6 (g:ay) (w:List Int):∀ v∈[V.agg (aw g),encI w],Tree v:=by
  intro v hv; simp at hv
  rcases hv with rfl | rfl
  · exact bL _ (bU g)
  · exact cF w
set_option maxHeartbeats 8000000 in
theorem He (g:ay) (hg:g.Ok) (w:List Int) (hw:aL w) (hn:∀ x∈w,bJ x):aD Tryz.prog 3 [.agg (aw g),encI w] (gb true):=by
  refine aD.val (O6 g w) fun H=>?_
  have hw':=hw
  unfold aL at hw'
  have hB:=(rP g hg).pure
  refine aC.of mixed qY ?_
  simp only[aw,encS,bu] at hB
  simp (disch:=omega) only [↓wr,wq,ah,Nat.reduceAdd,Nat.reduceLeDiff,kR,aw,encS,encI]
  refine aE.pure Ig (by kernel_rfl) ?_
  simp (disch:=omega) only [↓wr,↓reduceIte,wq,Nat.reduceEqDiff,Nat.reduceAdd,Nat.reduceLeDiff]
  refine aE.pure (On g) (by kernel_rfl) ?_
  simp (disch:=omega) only [↓wr,↓reduceIte,wq]
  refine av.split (fun e=>?_) (fun e=>?_)
  · simp (disch:=omega) only [↓wr,↓reduceIte,wq,Nat.reduceEqDiff,reduceCtorEq]
  have hsm:g.Small:=HM e
  simp (disch:=omega) only [↓wr,↓reduceIte,wq,ag,aj,Nat.reduceEqDiff]
  refine av.dec (fun hl=>?_) (fun hl=>?_)
  · simp (disch:=omega) only [↓wr,↓reduceIte,wq,reduceCtorEq]
  simp (disch:=omega) only [↓wr,↓reduceIte,wq,Nat.reduceEqDiff,Nat.reduceAdd,Nat.reduceLeDiff]
  refine aE.pure hB (by kernel_rfl) ?_
  by_cases hz:(dw g).2.2=0
  · have hb:=OD hg hz
    have hsh:=hb.shape
    have htk:=hb.tok
    have hpk:=DN _ hsh
    have p1:=(mw g hg hsm _ htk w hw hn).pure
    have p2:=Qm g hg hsm _ (Iu htk hsh) w hw hn
    have hrk:runK g (fS (dw g).1) w=gU g (dw g).1 w:=by rw[runK,if_pos (CB hsh),Ar hsh]
    rw[hrk] at p2
    have p3:=G1 g (dw g).1 w
    have p4:=NA g (dw g).1 w
    generalize gU g (dw g).1 w=y at p1 p2 p3 p4
    obtain ⟨y1,y2,y3⟩:=y
    have he:=Dp y1 y1 p3
    rw[beq_self_eq_true] at he
    simp only at p4
    clear hb hsh htk hrk
    generalize (dw g).1=t at *
    generalize fS t=p at *
    simp only[aw,encS,bu,cP,encI,sR] at p1 p2 he hpk
    simp (disch:=omega) only [↓wr,↓reduceIte,wq,ag,ab,Nat.reduceEqDiff,Nat.reduceAdd,Nat.reduceLT,Nat.reduceLeDiff]
    intro b5 hb5
    refine av.ne (fun h=>absurd hz h) (fun _=>?_)
    simp (disch:=omega) only [↓wr,↓reduceIte,wq,Nat.reduceEqDiff,Nat.reduceAdd,Nat.reduceLT,Nat.reduceLeDiff]
    refine aE.pure hpk (by kernel_rfl) ?_
    simp (disch:=omega) only [↓wr,↓reduceIte,wq,ab,Nat.reduceEqDiff,Nat.reduceAdd,Nat.reduceLT,Nat.reduceLeDiff]
    intro b8 hb8
    have n58:¬ b5=b8:=fun e=>(dz hb8 cT).1 e.symm
    simp (disch:=omega) only [↓wr,↓reduceIte,wq,Nat.reduceEqDiff,Nat.reduceAdd,Nat.reduceLT,Nat.reduceLeDiff,n58,encI]
    refine aE.pure p1 (by kernel_rfl) ?_
    simp (disch:=omega) only [↓wr,↓reduceIte,wq,Nat.reduceEqDiff,Nat.reduceAdd,Nat.reduceLT,Nat.reduceLeDiff]
    refine aE.pure p2 (by kernel_rfl) ?_
    simp (disch:=omega) only [↓wr,↓reduceIte,wq,Nat.reduceEqDiff,Nat.reduceAdd,Nat.reduceLT]
    refine aE.pure he (by kernel_rfl) ?_
    simp (disch:=omega) only [↓wr,↓reduceIte,wq,ag,Nat.reduceEqDiff]
    refine av.eq (fun _=>?_) (fun h=>absurd rfl h)
    simp (disch:=omega) only [↓wr,↓reduceIte,wq,ag,Nat.reduceEqDiff]
    refine av.eq (fun _=>?_) (fun h=>absurd rfl h)
    simp (disch:=omega) only [↓wr,↓reduceIte,wq,ag,Nat.reduceEqDiff]
    refine av.dec (fun _=>?_) (fun h=>absurd (by omega) h)
    simp (disch:=omega) only [↓wr,↓reduceIte,wq,ag,aj,Nat.reduceEqDiff,reduceCtorEq]
    rw[decide_eq_true (by omega)]
  · simp (disch:=omega) only [↓wr,↓reduceIte,wq,ag,ab,Nat.reduceEqDiff,Nat.reduceAdd,Nat.reduceLT,Nat.reduceLeDiff]
    intro b5 hb5
    refine av.ne (fun h=>?_) (fun h=>absurd h hz)
    simp (disch:=omega) only [↓wr,↓reduceIte,wq,reduceCtorEq]
end Gv
