/-
  Part 15 of the proof: what the machine does and what the functions answer.
  Conditions: those that each lemma names.
-/
import Derived.Test.YtkkdjpnkhhlnpaaGreatSGzYN
set_option linter.unusedSimpArgs false
set_option linter.unusedVariables false
set_option maxRecDepth 100000
namespace Gv
open Go Go.Proofs
section
variable {H:View} {b:Nat} {g:ay} {a:List bt} {ul us:V} {vs:List V} {ls:List (List aN)} {ss:Sets} {more:Bool} {L:List ep}
theorem bO.goApp {u:V} {sz bytes:Nat} {es xs:List (List V)} {K:V→View→Prop} {w:cI (H,K)} (hc:bO H b g a ul us vs ls ss more ((u,sz,es) :: L)) (hok:(xs.all fun e=>e.length == sz && e.all aU)=true)
    (hl:(es.length+xs.length) * bytes < aJ) (hl2:es.length+xs.length < aJ) (hk:∀ u' H',bO H' b g a ul us vs ls ss more ((u',sz,es ++ xs) :: L)→K u' H'):jB sz bytes u xs H K w :=
  bQ (hc.own.perm mE) hok hl hl2 fun u' H' ho _=>hk u' H' ⟨hc.len,ho.perm mE.symm⟩
theorem bO.emp (h:bO H b g a ul us vs ls ss more L) (k sz:Nat):bO H b g a ul us vs ls ss more ((.emp k,sz,[]) :: L):=⟨h.len,(h.own.emp (k:=k) (sz:=sz)).perm mE.symm⟩
theorem bO.PK {u:V} {sz:Nat} {es:List (List V)} (h:bO H b g a ul us vs ls ss more ((u,sz,es) :: L)):bc H u sz es:=(h.own.perm mE).head
theorem bO.PC {L':List ep} (h:bO H b g a ul us vs ls ss more L) (p:L.Perm L'):bO H b g a ul us vs ls ss more L':=⟨h.len,h.own.perm (((p.append_left _).cons _).cons _ |>.cons _)⟩
end
theorem L3 (a:List bt):V.cells (bR a)=[bR a]:=id rfl
theorem RD (a:List bt):aU (bR a)=true:=id rfl
def eT (ls:List (List aN)):Sets:=ls.map fun l=>List.replicate l.length 0
theorem EG (ls:List (List aN)):iR ls (eT ls):=by
  refine ⟨by simp[eT],fun i=>?_⟩
  simp only[eT,List.getD_eq_getElem?_getD,List.getElem?_map]
  cases ls[i]? <;> simp
theorem yz (ls:List (List aN)) (i k:Nat):cY (eT ls) i k=0:=by
  simp only[cY,eT,List.getD_eq_getElem?_getD,List.getElem?_map]
  cases ls[i]? with
  | none=>simp
  | some l =>
    simp only[Option.map_some,Option.getD_some,List.getElem?_replicate]
    split <;> rfl
theorem FE:∀ {vs:List V} {ss:Sets} (v:V) (r:List BV),vs.length=ss.length→uH (vs ++ [v]) (ss ++ [r])=uH vs ss ++ [(v,1,dC r)]
  | [],[],v,r,_=>rfl
  | [],_ :: _,_,_,h=>by simp at h
  | _ :: _,[],_,_,h=>by simp at h
  | x :: vs,s :: ss,v,r,h=>by
    simp only[List.cons_append,uH,FE v r (show vs.length=ss.length by simpa using h)]
theorem FB {g:ay} {a:List bt} (hla:(aW g a).length=a.length) (h1:1≤a.length) {ss:Sets} (hs:iR (aW g a) ss) (hd:jf g (bm g false) a (aW g a) ss) (h0:∀ k,((aW g a).getD 0 [])[k]?=some ⟨-1,0⟩→(cY ss 0 k).getLsbD g.ax.length=true)
    (hf:∀ i k,i < (aW g a).length→k < ((aW g a).getD i []).length→fJ g (bm g false) a (aW g a) i k ss=ss) {i k:Nat} {x:aN} (hx:((aW g a).getD i [])[k]?=some x):cY ss i k=sY g a i x:=by
  classical
  refine zk fun t ht=>?_
  rw[Bool.eq_iff_iff]
  unfold sY
  rw[Hg _ 32 t (Nat.le_refl _)]
  simp only[decide_eq_true_eq]
  exact ⟨fun h=>⟨ht,hd i k x t hx h⟩,fun h=>Nl hla h1 hs h0 hf h.2 k hx⟩
def Cf (p:dk):List V:=[gi p.aP,gw p.set]
def kY (l:List dk):List (List V):=l.map Cf
def vU (l:List (List dk)):V:=.aX (l.map fun r=>[.aX (kY r)])
theorem IB (l:List dk):Tree (.aX (kY l)):=cL _ _ fun x _ v hv=>by simp[Cf] at hv; rcases hv with rfl | rfl <;> exact .val _
abbrev RE:=List (V × List dk)
def Mr (B:RE):List ep:=B.map fun x=>(x.1,2,kY x.2)
theorem Qi {h:aH} {u:V} {B:RE} (ho:bc h.view u 1 (cq B)) (hb:∀ x∈B,bc h.view x.1 2 (kY x.2)):bZ h u (vU (B.map (·.2))):=by
  have hg:∀ i (hi:i < B.length),(cq B).getD i []=[(B[i]).1]∧(((B.map (·.2)).map fun r=>[V.aX (kY r)]).getD i [])=[.aX (kY (B[i]).2)]:=fun i hi=>by
    simp[cq,List.getD_eq_getElem?_getD,hi]
  refine bZ.own ho (by simp[cq]) (fun i hi=>?_) (fun i j hi hj=>?_)
  · have hi':i < B.length:=by simpa [cq] using hi
    rw[(hg i hi').1,(hg i hi').2]; rfl
  · have hi':i < B.length:=by simpa [cq] using hi
    rw[(hg i hi').2] at hj ⊢
    rw[(hg i hi').1]
    have:j=0:=by simp at hj; omega
    subst this
    simp only[List.getD_cons_zero]
    have hx:=hb _ (List.getElem_mem hi')
    generalize (B[i]'hi').2=l at hx
    refine bZ.own hx rfl (fun i _=>rfl) (fun i j hi hj=>?_)
    simp only[kY,List.length_map] at hi
    have e:(kY l).getD i []=Cf l[i]:=by simp[kY,List.getD_eq_getElem?_getD,hi]
    rw[e] at hj ⊢
    match j,hj with
    | 0,_=>exact .val _
    | 1,_=>exact .val _
def pK:SC :=
  .seq (.seq (ak [aa 29 7,aa 30 4,aM 31 30,aR 32 .lss 29 31]) <|
  .cond (.tmp 32) (.skip) (.exit 0)) <|
  .seq (.block 1 (.seq (ak [aO 35 4 1,aa 36 4,aa 37 7,aS 38 2 36 37,au 39 0 38,ao 40 39,aQ 41 31 [35,40],aa 8 41]) <|
  .seq (ak [aa 42 6,aa 43 6,bz 44 43,au 45 5 44,ao 46 45,aa 47 8,((some 48),.op (.bh 1 1 [(.emp 1)] [(0,(.tmp 47))])),((some 49),.op (.app 1 24 (.tmp 46) (.tmp 48))),bz 50 42,au 51 5 50,(none,.op (.store 1 (.tmp 51) (.tmp 49)))]) <|
  ak [aa 52 6,aa 53 6,bz 54 53,au 55 6 54,ao 56 55,aa 57 8,aM 58 57,((some 59),.op (.make 1 4 [(.val (.int .u32 0))] (.tmp 58) (.tmp 58))),((some 60),.op (.bh 1 1 [(.emp 1)] [(0,(.tmp 59))])),((some 61),.op (.app 1 24 (.tmp 56) (.tmp 60))),bz 62 52,au 63 6 62,(none,.op (.store 1 (.tmp 63) (.tmp 61)))])) <|
  ak [aa 33 7,az 34 .add 33 1,aa 7 34]
def pW:SC :=
  .seq (.seq (ak [aa 84 10,aa 85 6,bz 86 85,au 87 5 86,ao 88 87,aa 89 9,aS 90 1 88 89,ao 91 90,aM 92 91,aR 93 .lss 84 92]) <|
  .cond (.tmp 93) (.skip) (.exit 6)) <|
  .seq (.block 7 (ak [aa 96 6,aa 97 9,aa 98 10,aQ 99 96 [96,97,98]])) <|
  ak [aa 94 10,az 95 .add 94 1,aa 10 95]
def qf:SC :=
  .seq (.seq (ak [aa 78 9,aa 79 4,aM 80 79,aR 81 .lss 78 80]) <|
  .cond (.tmp 81) (.skip) (.exit 4)) <|
  .seq (.block 5 (.seq (ak [aI 10 0]) <|
  .block 6 (.loop pW))) <|
  ak [aa 82 9,az 83 .add 82 1,aa 9 83]
def pX:SC :=
  .seq (.seq (ak [aa 71 6,bz 72 71,au 73 7 72,ao 74 73]) <|
  .cond (.tmp 74) (.skip) (.exit 2)) <|
  .block 3 (.seq (ak [aa 75 6,bz 76 75,au 77 7 76,(none,.op (.store 1 (.tmp 77) (.val (.val (.bool false)))))]) <|
  .seq (ak [aI 9 0]) <|
  .block 4 (.loop qf))
def qb:SC :=
  .seq (.seq (ak [aa 106 14,aa 107 6,bz 108 107,au 109 5 108,ao 110 109,aa 111 12,aS 112 1 110 111,ao 113 112,aM 114 113,aR 115 .lss 106 114]) <|
  .cond (.tmp 115) (.skip) (.exit 10)) <|
  .seq (.block 11 (.seq (ak [aO 119 4 1,aa 120 6,bz 121 120,au 122 5 121,ao 123 122,aa 124 12,aS 125 1 123 124,ao 126 125,aa 127 14,aS 128 2 126 127,aO 129 2 128,aQ 130 26 [119,129],aa 118 130,bH 131 0 118,bH 132 1 118,aa 15 131,aa 16 132]) <|
  .seq (.region false [⟨none,[aa 133 16,bX 134 133,aa 135 134]⟩,⟨(some (135,true)),[aa 136 6,bz 137 136,au 138 5 137,ao 139 138,aa 140 12,aS 141 1 139 140,ao 142 141,aa 143 14,aS 144 2 142 143,au 145 0 144,ao 146 145,az 147 .geq 146 0]⟩,⟨none,[bF 148 135 147]⟩]) <|
  .cond (.tmp 148) (ak [aa 149 13,aa 150 6,bz 151 150,au 152 5 151,ao 153 152,aa 154 12,aS 155 1 153 154,ao 156 155,aa 157 14,aS 158 2 156 157,au 159 0 158,ao 160 159,aa 161 6,bz 162 161,au 163 6 162,ao 164 163,aa 165 12,aS 166 1 164 165,ao 167 166,aa 168 14,aS 169 1 167 168,ao 170 169,((some 171),.op (.build [(.val (.int .i64 0)),(.val (.int .u32 0))] [(0,1,(.tmp 160)),(1,1,(.tmp 170))])),((some 172),.op (.bh 1 2 [(.val (.int .i64 0)),(.val (.int .u32 0))] [(0,(.tmp 171))])),((some 173),.op (.app 2 16 (.tmp 149) (.tmp 172))),aa 13 173]) (.skip))) <|
  ak [aa 116 14,az 117 .add 116 1,aa 14 117]
def pT:SC :=
  .seq (.seq (ak [aa 100 12,aa 101 4,aM 102 101,aR 103 .lss 100 102]) <|
  .cond (.tmp 103) (.skip) (.exit 8)) <|
  .seq (.block 9 (.seq (ak [((some 13),.op (.bo (.val (.emp 1))))]) <|
  .seq (.seq (ak [aI 14 0]) <|
  .block 10 (.loop qb)) <|
  ak [aa 174 11,aa 175 13,((some 176),.op (.bh 1 1 [(.emp 1)] [(0,(.tmp 175))])),((some 177),.op (.app 1 24 (.tmp 174) (.tmp 176))),aa 11 177])) <|
  ak [aa 104 12,az 105 .add 104 1,aa 12 105]
def so:SF:=⟨.seq (ak [bW 1 0,((some 2),.op (.bo (.val (.emp 1)))),aI 3 0]) <|
  .seq (ak [aO 18 4 1,aQ 19 33 [18],aa 17 19,bH 20 0 17,bH 21 1 17,aa 4 20,aa 5 21]) <|
  .seq (.seq (ak [aa 22 5,az 23 .neq 22 0]) <|
  .cond (.tmp 23) (.seq (ak [aa 24 5,((some 2),.op (.bo (.val (.emp 1)))),aa 3 24]) <|
  .ret) (.skip)) <|
  .seq (ak [aO 25 4 1,aa 26 4,((some 27),.op (.build [(.emp 1),(.emp 1),(.emp 1),(.val (.int .i64 0)),(.emp 1),(.emp 1),(.emp 1),(.val (.bool false))] [(0,4,(.tmp 25)),(4,1,(.tmp 26))])),((some 28),.op (.box (.tmp 27))),aa 6 28]) <|
  .seq (.seq (ak [aI 7 0]) <|
  .block 0 (.loop pK)) <|
  .seq (ak [aa 64 6,((some 65),.op (.build [(.val (.int .i64 0)),(.val (.int .i64 0))] [(0,1,(.val (.val (.int .i64 (-1)))))])),au 66 0 1,ao 67 66,aM 68 67,aQ 69 95 [68],cZ 70 94 [(.tmp 64),(.val (.val (.int .i64 0))),(.tmp 65),(.tmp 69)]]) <|
  .seq (.block 2 (.loop pX)) <|
  .seq (ak [((some 11),.op (.bo (.val (.emp 1))))]) <|
  .seq (.seq (ak [aI 12 0]) <|
  .block 8 (.loop pT)) <|
  .seq (ak [aa 178 11,aa 2 178,aI 3 0]) <|
  .ret,
  [.tmp 2,.tmp 3],179⟩
theorem x6:aY Tryz.prog 50 [1]=some so:=by kernel_rfl
theorem D6 {g:ay} {a:List bt} {i:Nat} {s:bt} (h:a[i]?=some s):(aW g a)[i]?=some (dA g s.bG):=by rw[aW,List.getElem?_map,h]; rfl
theorem xk {g:ay} (hg:g.Ok) (h:(bV g).2=0):Md g (bV g).1 (aW g (bV g).1)∧B1 g (bV g).1:=by
  have hr:isRed g=true:=Classical.byContradiction fun hn=>by
    unfold bV at h; rw[if_neg hn] at h; simp at h
  have hf:=xn hr
  obtain ⟨hA,h1,h2⟩:=F4 hf h
  refine ⟨⟨hg,Ah hr,by simp[aW],h1,h2,fun s hs=>⟨by unfold aL; have:=hA.cp s hs; omega,fun e he=>?_⟩,fun l hl=>?_⟩,hA⟩
  · have h3:=hA.to s hs e he
    have h4:=hA.sym s hs e he
    unfold bJ; omega
  · obtain ⟨s,hs,rfl⟩:=List.mem_map.1 hl
    have hk:=(hA.bG s hs).2.2
    exact ⟨by have:=DU hf hk; omega,fun x hx=>((jU hf hk).1 hx).has hk⟩
def Tl (g:ay) (a:List bt) (b:Nat) (ul us:V) (vs:List V) (m:Nat) (T:Env) (H:View):Prop:=∃ (ss:Sets) (more:Bool),m=(O9 (aW g a) - yX ss)+(if more then 1 else 0)∧bO H b g a ul us vs (aW g a) ss more []∧iR (aW g a) ss∧jf g (bm g false) a (aW g a) ss ∧
  (∀ k,((aW g a).getD 0 [])[k]?=some ⟨-1,0⟩→(cY ss 0 k).getLsbD g.ax.length=true)∧(more=false→∀ i k,i < (aW g a).length→k < ((aW g a).getD i []).length→fJ g (bm g false) a (aW g a) i k ss=ss) ∧
  T 1=.aT (aw g) 0∧T 4=bR a∧T 6=.ptr b 0 0
set_option maxHeartbeats 16000000 in
theorem P1 (g:ay) (hg:g.Ok):cH Tryz.prog 50 [.agg (aw g)] (.bf [vU (rK g).1,gi (rK g).2]):=by
  refine cH.of (fY g) ?_
  have hB:=(Cz g hg).pure
  refine aC.of mixed x6 ?_
  simp only[aw,encS] at hB
  simp (disch:=omega) only [↓wr,↓reduceIte,wq,ah,Nat.reduceEqDiff,Nat.reduceAdd,Nat.reduceLeDiff,Int.reduceNeg,so,aw,encS]
  refine aE.pure hB (by kernel_rfl) ?_
  unfold rK
  simp (disch:=omega) only [↓wr,↓reduceIte,wq,ag,Nat.reduceEqDiff,Nat.reduceAdd,Nat.reduceLT,Int.reduceNeg]
  refine av.ne (fun h=>?_) (fun h=>?_)
  · simp (disch:=omega) only [↓wr,↓reduceIte,wq,Nat.reduceEqDiff,Int.reduceNeg,reduceCtorEq]
    intro h' _
    rw[if_neg h]
    exact vQ (.emp _)
  rw[if_pos h]
  obtain ⟨hW,hA⟩:=xk hg h
  generalize (bV g).1=a at *
  clear hB h
  have hf:=cn hW.right
  have h300:=hW.short
  have hT:=hf.ax
  simp (disch:=omega) only [↓wr,↓reduceIte,wq,ab,ae,Nat.reduceEqDiff,Nat.reduceAdd,Nat.reduceLeDiff,Int.reduceNeg,L3,RD]
  intro b
  have c0:bO (View.set (fun _=>cU.dead) b (.arr 8 [dL g a (.emp 1) (.emp 1) false])) b g a (.emp 1) (.emp 1) [] ((aW g a).take 0) (eT ((aW g a).take 0)) false [] :=
    ⟨rfl,(((bK.nil.new (n:=b) (H:=fun _=>cU.dead) rfl 8 [dL g a (.emp 1) (.emp 1) false]).emp (k:=1) (sz:=1)).emp (k:=1) (sz:=1)).perm CR.symm⟩
  simp only[dL] at c0
  generalize (View.set (fun _=>cU.dead) b (.arr 8 [[V.aX (g.ax.map dP),.aX (g.aA.map fun s=>[gs s]),.aX (g.rules.map bP),gi g.start,bR a,.emp 1,.emp 1,gb false]]))=H0 at c0 ⊢
  refine ba.up a.length (fun i T H'=>∃ (ul us:V) (vs:List V),bO H' b g a ul us vs ((aW g a).take i) (eT ((aW g a).take i)) false []∧T 1=.aT (aw g) 0∧T 4=bR a∧T 6=.ptr b 0 0∧T 7=gi i) ⟨_,_,_,c0,rfl,rfl,rfl,rfl⟩ ?_
  clear c0
  rintro i k T H hk ⟨ul,us,vs,hc,t1,t4,t6,t7⟩
  simp (disch:=omega) only [↓wr,↓reduceIte,wq,ag,aj,ab,ae,Nat.reduceEqDiff,Nat.reduceAdd,Nat.reduceLeDiff,Int.reduceNeg,pK,t4,t7,bR]
  refine av.dec (fun hci=>?_) (fun hci=>?_)
  · have hs:a[i]?=some (a[i]'(by omega)):=List.getElem?_eq_getElem (by omega)
    have hcl:=D6 (g:=g) hs
    obtain ⟨k1,k2,k3⟩:=hA.bG _ (List.getElem_mem (show i < a.length by omega))
    generalize a[i]'(by omega)=s at hs hcl k1 k2 k3
    have hkl:=ia hf k1 k3
    have hC:=(G3 g hg s.bG (by omega) (fun x hx=>wo hf (k3 x hx))).pure
    rw[List.filter_eq_self.2 fun x hx=>mV.2 ⟨hW.right,k3 x hx⟩] at hC
    have hcd:=DU hf k3
    have hne:dA g s.bG≠[]:=fun e=>by
      cases hk:s.bG with
      | nil=>exact k2 hk
      | cons x r =>
        have:=(jU hf k3).2 (.base (show x∈s.bG by rw[hk]; simp))
        rw[e] at this; simp at this
    generalize dA g s.bG=cl at *
    have htk:(aW g a).take (i+1)=(aW g a).take i ++ [cl]:=by rw[List.take_add_one,hcl]; rfl
    have hlt:((aW g a).take i).length≤300:=by rw[List.length_take]; have:=hW.len; omega
    simp only[aw,encS] at hC
    simp (disch:=omega) only [↓wr,↓reduceIte,wq,Nat.reduceEqDiff,Nat.reduceAdd,Nat.reduceLT,Nat.reduceLeDiff,Int.reduceNeg,t1,t4,t7,aw,encS,bR,List.getElem?_map,hs,eo]
    refine aE.pure hC (by kernel_rfl) ?_
    have hb:=hc.box
    simp (disch:=omega) only [↓wr,↓reduceIte,wq,af,Nat.reduceEqDiff,Nat.reduceAdd,Nat.reduceLT,Int.reduceNeg,t6,hb,dL]
    intro q hq
    simp (disch:=omega) only [↓wr,↓reduceIte,wq,Nat.reduceEqDiff,Int.reduceNeg,bp]
    have o1:=(hc.own.fresh (o:=.arr 1 [[.aX (bD cl)]]) hq).at 1 (by simp)
    refine bQ o1 (by simp[aU]) (by unfold aJ; simp only[js]; simp; omega) (by unfold aJ; simp only[js]; simp; omega) ?_
    intro ul2 H2 o2 _
    simp only[List.eraseIdx_cons_succ,List.eraseIdx_cons_zero] at o2
    have hb2:=o2.is 1 rfl (by simp)
    have o3:=(o2.perm (.swap _ _ _)).put (es':=[dL g a ul2 us false]) rfl rfl
    have cu:=o2.head.cells
    have ku:=o2.head.fA
    simp only[dL] at o3 hb2
    clear o1 o2 hq hb
    simp (disch:=omega) only [↓wr,↓reduceIte,wq,aj,ab,af,Nat.reduceEqDiff,Nat.reduceAdd,Nat.reduceLT,Nat.reduceLeDiff,Int.reduceNeg,t6,hb2,cu,ku,fR]
    have hcl0:cl.length≠0:=fun e=>hne (List.length_eq_zero_iff.1 e)
    refine ⟨⟨Nat.le_refl _,by unfold aJ; omega,by unfold aJ; omega⟩,fun hz=>absurd hz hcl0,fun _ nm hnm=>?_⟩
    have o4:=o3.new (n:=nm) (by simpa [View.set] using hnm) 1 (List.replicate cl.length [.val (.int .u32 0)])
    rw[List.length_replicate] at o4
    intro q2 hq2
    simp (disch:=omega) only [↓wr,↓reduceIte,wq,Nat.reduceEqDiff,Int.reduceNeg,bp]
    have o5:=(o4.fresh (n:=q2) (o:=.arr 1 [[.sl nm 0 cl.length 1]]) (by simpa [View.set] using hq2)).at 3 (by simp)
    refine bQ o5 (by simp[aU]) (by unfold aJ; simp only[List.length_map]; simp; have:=hc.len; simp[eT] at this; omega) (by unfold aJ; simp only[List.length_map]; simp; have:=hc.len; simp[eT] at this; omega) ?_
    intro us2 H5 o6 _
    simp only[List.eraseIdx_cons_succ,List.eraseIdx_cons_zero] at o6
    have hb6:=o6.is 2 rfl (by simp)
    have cu2:=o6.head.cells
    have ku2:=o6.head.fA
    simp (disch:=omega) only [↓wr,↓reduceIte,wq,ag,aj,ab,Nat.reduceEqDiff,Nat.reduceAdd,Nat.reduceLT,Nat.reduceLeDiff,Int.reduceNeg,reduceCtorEq,t1,t7,hb6,cu2,ku2]
    have o7:=(o6.at 2 (by simp)).put (es':=[dL g a ul2 us2 false]) rfl rfl
    simp only[List.eraseIdx_cons_succ,List.eraseIdx_cons_zero] at o7
    refine aV hk (by omega) ⟨ul2,us2,vs ++ [.sl nm 0 cl.length 1],⟨?_,?_⟩,t1,t4,t6,rfl⟩
    · have:=hc.len
      rw[htk]; simp[eT] at this ⊢; exact this
    · have e1:xW ((aW g a).take i ++ [cl])=xW ((aW g a).take i) ++ [[.aX (bD cl)]]:=by simp[xW]
      have e2:eT ((aW g a).take i ++ [cl])=eT ((aW g a).take i) ++ [List.replicate cl.length 0]:=by simp[eT]
      have e3:(List.replicate cl.length [V.val (.int .u32 0)])=dC (List.replicate cl.length (0:BV)):=by simp
      rw[htk,e1,e2,FE _ _ hc.len,List.map_append,List.append_nil]
      rw[e3,List.append_nil] at o7
      exact o7.perm (.cons _ ((List.perm_middle (l₁:=[_,_])).trans (.cons _ (.cons _ (List.perm_append_singleton _ _).symm))))
  rw[List.take_of_length_le (by have:=hW.len; omega)] at hc
  have hfx:=fun m=>hW.item m
  simp (disch:=omega) only [↓wr,↓reduceIte,wq,aj,Nat.reduceEqDiff,Nat.reduceAdd,Nat.reduceLT,Int.reduceNeg,reduceCtorEq,t1,t6,aw]
  refine aE.pure (As (g.ax.length:Int)) (by kernel_rfl) ?_
  simp (disch:=omega) only [↓wr,↓reduceIte,wq,Nat.reduceEqDiff,Int.reduceNeg,t6]
  have hzs:=EG (aW g a)
  have hl0:0 < (aW g a).length:=by have:=hW.len; have:=hW.qQ; omega
  refine aE.ff ((C1 g a ul us vs (aW g a) (eT (aW g a)) false [] b H hc hzs (fun l hl=>(hW.item l hl).1) 0 hl0 ⟨-1,0⟩ (ib g.ax.length)).mono ?_)
  intro _ H1 hc1
  have hbit:∀ t,(ib (g.ax.length:Int)).getLsbD t=true↔t=g.ax.length:=fun t=>by
    rw[ib,if_pos (by omega),BitVec.getLsbD_twoPow]
    simp only[Int.toNat_natCast,Bool.and_eq_true,decide_eq_true_eq]
    omega
  have hs1:=fM hzs hl0 ⟨-1,0⟩ (ib g.ax.length)
  have hd1:jf g (bm g false) a (aW g a) (dT (aW g a) (eT (aW g a)) 0 ⟨-1,0⟩ (ib g.ax.length)):=by
    refine pC hzs (fun i k x t _ h=>by rw[yz] at h; simp at h) hl0 fun t ht hm=>?_
    rw[(hbit t).1 ht]
    exact .start hm
  have h01:∀ k,((aW g a).getD 0 [])[k]?=some ⟨-1,0⟩→(cY (dT (aW g a) (eT (aW g a)) 0 ⟨-1,0⟩ (ib g.ax.length)) 0 k).getLsbD g.ax.length=true:=fun k hk=>by
    rw[qB hzs hl0,if_pos ⟨rfl,hk⟩,BitVec.getLsbD_or,(hbit _).2 rfl,Bool.or_true]
  have hf1:(false || decide (dT (aW g a) (eT (aW g a)) 0 ⟨-1,0⟩ (ib g.ax.length)≠eT (aW g a)))=false→∀ i k,i < (aW g a).length→k < ((aW g a).getD i []).length→fJ g (bm g false) a (aW g a) i k (dT (aW g a) (eT (aW g a)) 0 ⟨-1,0⟩ (ib g.ax.length))=dT (aW g a) (eT (aW g a)) 0 ⟨-1,0⟩ (ib g.ax.length):=fun h i k _ _=>by
    simp only[Bool.false_or,decide_eq_false_iff_not,Classical.not_not] at h
    rw[h,fJ,if_pos (.inr (yz _ _ _))]
  generalize dT (aW g a) (eT (aW g a)) 0 ⟨-1,0⟩ (ib g.ax.length)=ss1 at *
  generalize (false || decide (ss1≠eT (aW g a)))=more1 at *
  simp (disch:=omega) only [↓wr,wq,Int.reduceNeg]
  refine ba.intro (Tl g a b ul us vs) _ ⟨ss1,more1,rfl,hc1,hs1,hd1,h01,hf1,t1,t4,t6⟩ ?_
  clear hc hc1 hs1 hd1 h01 hf1 t1 t4 t6 t7 hzs hci hk
  rintro m T2 H2 ⟨ss0,more0,rfl,hc,hsh,hd,h0,hfix,t1,t4,t6⟩
  have hb:=hc.box
  have hla:=hW.len
  have h1l:=hW.qQ
  obtain ⟨nl,rfl,_⟩:=hc.lists (by omega)
  simp (disch:=omega) only [↓wr,↓reduceIte,wq,Nat.reduceAdd,Nat.reduceLT,pX,t6,hb,dL]
  refine av.split (fun hm=>?_) (fun hm=>?_)
  · have hc1:=hc.flag false
    simp only[dL] at hc1
    simp (disch:=omega) only [↓wr,↓reduceIte,wq,ab,Nat.reduceEqDiff,Nat.reduceAdd,Nat.reduceLT,Nat.reduceLeDiff,t6,hb,dL]
    refine ba.up a.length (fun i T H'=>∃ ss:Sets,bO H' b g a (.sl nl 0 (aW g a).length 1) us vs (aW g a) ss (decide (ss≠ss0)) []∧iR (aW g a) ss∧jf g (bm g false) a (aW g a) ss∧ji ss0 ss ∧
      (ss=ss0→∀ i' k,i' < i→k < ((aW g a).getD i' []).length→fJ g (bm g false) a (aW g a) i' k ss0=ss0)∧T 1=.aT (aw g) 0∧T 4=bR a∧T 6=.ptr b 0 0∧T 9=gi i)
      ⟨ss0,by rw[decide_eq_false (by simp)]; exact hc1,hsh,hd,.refl,fun _ i' k h=>by omega,t1,t4,t6,rfl⟩ ?_
    clear hc1 t1 t4 t6 hb
    rintro i k2 T3 H3 hk2 ⟨ss,hc3,hs3,hd3,hle3,hf3,t1,t4,t6,t9⟩
    simp (disch:=omega) only [↓wr,↓reduceIte,wq,ag,aj,Nat.reduceEqDiff,qf,t4,t9,bR]
    refine av.dec (fun hci=>?_) (fun hci=>?_)
    · have hil:i < (aW g a).length:=by omega
      have h10:=(hW.item _ (List.mem_of_getElem? (getD_some (d:=[]) hil))).1
      simp (disch:=omega) only [↓wr,wq]
      refine ba.up ((aW g a).getD i []).length (fun k T H'=>∃ ss:Sets,bO H' b g a (.sl nl 0 (aW g a).length 1) us vs (aW g a) ss (decide (ss≠ss0)) []∧iR (aW g a) ss∧jf g (bm g false) a (aW g a) ss∧ji ss0 ss ∧
        (ss=ss0→(∀ i' k,i' < i→k < ((aW g a).getD i' []).length→fJ g (bm g false) a (aW g a) i' k ss0=ss0)∧∀ k',k' < k→fJ g (bm g false) a (aW g a) i k' ss0=ss0)∧T 1=.aT (aw g) 0∧T 4=bR a∧T 6=.ptr b 0 0∧T 9=gi i∧T 10=gi k)
        ⟨ss,hc3,hs3,hd3,hle3,fun e=>⟨hf3 e,fun k' h=>by omega⟩,t1,t4,t6,t9,rfl⟩ ?_
      clear hc3 hs3 hd3 hle3 hf3 t1 t4 t6 t9
      rintro k k3 T4 H4 hk3 ⟨ss,hc4,hs4,hd4,hle4,hf4,t1,t4,t6,t9,t10⟩
      have hb4:=hc4.box
      have hnl:=(hc4.Dm (by omega)).1
      have hlg:=Ce hil
      simp (disch:=omega) only [↓wr,↓reduceIte,wq,ag,aj,Nat.reduceEqDiff,Nat.reduceAdd,Nat.reduceLT,pW,t6,t9,t10,hb4,dL,hnl,hlg,js,fR]
      refine ⟨hil,hil,?_⟩
      refine av.dec (fun hck=>?_) (fun hck=>?_)
      · have hkl:k < ((aW g a).getD i []).length:=by omega
        simp (disch:=omega) only [↓wr,↓reduceIte,wq,Nat.reduceEqDiff,t6,t9,t10]
        refine aE.ff ((Qv g a _ us vs (aW g a) ss _ [] b H4 hW hc4 hs4 i k hil hkl).mono ?_)
        intro _ H5 hc5
        obtain ⟨p1,p2⟩:=Au (g:=g) (null:=bm g false) hla h1l hil k hs4
        have p3:=z7 hla h1l hil hkl hs4 hd4
        rw[Hl hle4 p2] at hc5
        simp (disch:=omega) only [↓wr,↓reduceIte,wq,ag,Nat.reduceEqDiff,reduceCtorEq,t9,t10]
        refine aV hk3 hkl ⟨_,hc5,p1,p3,hle4.trans p2,fun e=>?_,t1,t4,t6,t9,rfl⟩
        have e1:ss=ss0:=ji.C5 (Eq.mp (congrArg (ji ss) e) p2) hle4
        subst e1
        refine ⟨(hf4 rfl).1,fun k' hk'=>?_⟩
        rcases Nat.lt_or_ge k' k with hlt | hge
        · exact (hf4 rfl).2 k' hlt
        · have:k'=k:=by omega
          subst this
          exact e
      · simp (disch:=omega) only [↓wr,↓reduceIte,wq,Nat.reduceEqDiff,reduceCtorEq,t9]
        refine aV hk2 (by omega) ⟨ss,hc4,hs4,hd4,hle4,fun e i' k' hi' hk'=>?_,t1,t4,t6,rfl⟩
        rcases Nat.lt_or_ge i' i with hlt | hge
        · exact (hf4 e).1 i' k' hlt hk'
        · have:i'=i:=by omega
          subst this
          exact (hf4 e).2 k' (by omega)
    · simp (disch:=omega) only [↓wr,↓reduceIte,wq,Nat.reduceEqDiff,reduceCtorEq]
      have q1:=JK hle3
      have q2:=FW hs3
      refine ⟨_,?_,ss,decide (ss≠ss0),rfl,hc3,hs3,hd3,fun k hk=>hle3.2.2 0 k _ (h0 k hk),fun e=>?_,t1,t4,t6⟩
      · rw[hm]
        by_cases e:ss=ss0
        · subst e; simp
        · have:=q1.2 (fun h=>e h.symm)
          simp[e]; omega
      · have e2:ss=ss0:=by simpa using e
        have h3:=hf3 e2
        rw[e2]
        exact fun i k hi hk=>h3 i k (by omega) hk
  · have hfixed:=hfix hm
    subst hm
    have hset:=fun i k x=>FB (i:=i) (k:=k) (x:=x) hla h1l hsh hd h0 hfixed
    obtain ⟨nu,rfl,_⟩:=hc.JS (by rw[hsh.1]; omega)
    simp (disch:=omega) only [↓wr,↓reduceIte,wq,Nat.reduceEqDiff,reduceCtorEq]
    refine ba.up a.length (fun i T H'=>∃ (uo:V) (B:RE),B.map (·.2)=(fi g a).take i∧bO H' b g a (.sl nl 0 (aW g a).length 1) (.sl nu 0 ss0.length 1) vs (aW g a) ss0 false ((uo,1,cq B) :: Mr B)∧T 1=.aT (aw g) 0∧T 4=bR a∧T 6=.ptr b 0 0∧T 11=uo∧T 12=gi i)
      ⟨.emp 1,[],by simp,hc.emp 1 1,t1,t4,t6,rfl,rfl⟩ ?_
    clear hc t1 t4 t6 hb
    rintro i k2 T3 H3 hk2 ⟨uo,B,hB,hc3,t1,t4,t6,t11,t12⟩
    simp (disch:=omega) only [↓wr,↓reduceIte,wq,ag,aj,Nat.reduceEqDiff,reduceCtorEq,pT,t4,t12,bR]
    refine av.dec (fun hci=>?_) (fun hci=>?_)
    · have hil:i < (aW g a).length:=by omega
      have h10:=(hW.item _ (List.mem_of_getElem? (getD_some (d:=[]) hil))).1
      simp (disch:=omega) only [↓wr,wq]
      refine ba.up ((aW g a).getD i []).length (fun k T H'=>∃ u1:V,bO H' b g a (.sl nl 0 (aW g a).length 1) (.sl nu 0 ss0.length 1) vs (aW g a) ss0 false ((u1,2,kY ((((aW g a).getD i []).take k).filterMap fun x=>if (bI g x).2=false∧0≤x.aP then some ⟨x.aP,sY g a i x⟩ else none)) :: (uo,1,cq B) :: Mr B) ∧
        T 1=.aT (aw g) 0∧T 4=bR a∧T 6=.ptr b 0 0∧T 11=uo∧T 12=gi i∧T 13=u1∧T 14=gi k)
        ⟨.emp 1,hc3.emp 1 2,t1,t4,t6,t11,t12,rfl,rfl⟩ ?_
      clear hc3 t1 t4 t6 t11 t12
      rintro k k3 T4 H4 hk3 ⟨u1,hc4,t1,t4,t6,t11,t12,t13,t14⟩
      have hb4:=hc4.box
      have hnl:=(hc4.Dm (by omega)).1
      have hlg:=Ce hil
      simp (disch:=omega) only [↓wr,↓reduceIte,wq,ag,aj,af,Nat.reduceEqDiff,Nat.reduceAdd,Nat.reduceLT,qb,t6,t12,t14,hb4,dL,hnl,hlg,js,fR]
      refine ⟨hil,hil,?_⟩
      refine av.dec (fun hck=>?_) (fun hck=>?_)
      · have hkl:k < ((aW g a).getD i []).length:=by omega
        have hx:((aW g a).getD i [])[k]?=some (((aW g a).getD i [])[k]'hkl):=List.getElem?_eq_getElem hkl
        have hxH:=(hW.item _ (List.mem_of_getElem? (getD_some (d:=[]) hil))).2 _ (List.getElem_mem hkl)
        have htk:((aW g a).getD i []).take (k+1)=((aW g a).getD i []).take k ++ [((aW g a).getD i [])[k]'hkl]:=by rw[List.take_add_one,hx]; rfl
        generalize ((aW g a).getD i [])[k]'hkl=x at hx hxH htk
        have hN:=DL g hW.PI x (wo hf hxH)
        rw[BP,if_pos (mV.2 ⟨hW.right,hxH⟩)] at hN
        have hsx:=hset i k x hx
        have hvs:vs[i]?=some (vs[i]'(by rw[hc4.len,hsh.1]; exact hil)):=List.getElem?_eq_getElem _
        generalize vs[i]'(by rw[hc4.len,hsh.1]; exact hil)=v at hvs
        have hrl:=hsh.2 i
        have hvl:i < vs.length:=by rw[hc4.len,hsh.1]; exact hil
        have hss:i < ss0.length:=by rw[hsh.1]; exact hil
        obtain ⟨nv,rfl,hnv⟩:=(hc4.row hvs).sl (by rw[kJ]; omega)
        have hw:(ss0.getD i [])[k]?=some (cY ss0 i k):=getD_some (by omega)
        have hnu:=(hc4.Ly (by omega)).1
        have hpl:=List.length_filterMap_le (fun x:aN=>if (bI g x).2=false∧0≤x.aP then some (⟨x.aP,sY g a i x⟩:dk) else none) (((aW g a).getD i []).take k)
        rw[List.length_take] at hpl
        rw[hsx] at hw
        simp only[aw,encS,bE] at hN
        simp (disch:=omega) only [↓wr,↓reduceIte,wq,Nat.reduceEqDiff,Nat.reduceAdd,Nat.reduceLT,Nat.reduceLeDiff,t1,t6,t12,t14,hb4,dL,hnl,hlg,js,bD,List.getElem?_map,hx,bE,aw,encS]
        refine ⟨hil,hil,?_⟩
        refine aE.pure hN (by kernel_rfl) ?_
        have skip:¬ ((bI g x).2=false∧0≤x.aP)→(((aW g a).getD i []).take (k+1)).filterMap (fun x=>if (bI g x).2=false∧0≤x.aP then some (⟨x.aP,sY g a i x⟩:dk) else none)=(((aW g a).getD i []).take k).filterMap (fun x=>if (bI g x).2=false∧0≤x.aP then some (⟨x.aP,sY g a i x⟩:dk) else none):=fun hno=>by
          rw[htk,List.filterMap_append]
          simp[hno]
        have take:((bI g x).2=false∧0≤x.aP)→(((aW g a).getD i []).take (k+1)).filterMap (fun x=>if (bI g x).2=false∧0≤x.aP then some (⟨x.aP,sY g a i x⟩:dk) else none)=(((aW g a).getD i []).take k).filterMap (fun x=>if (bI g x).2=false∧0≤x.aP then some (⟨x.aP,sY g a i x⟩:dk) else none) ++ [⟨x.aP,sY g a i x⟩]:=fun hyes=>by
          rw[htk,List.filterMap_append]
          simp[hyes]
        simp (disch:=omega) only [↓wr,↓reduceIte,wq,Nat.reduceEqDiff,Nat.reduceAdd,Nat.reduceLT]
        refine av.split (fun hok=>?_) (fun hok=>?_)
        · simp (disch:=omega) only [↓wr,↓reduceIte,wq,ag,Nat.reduceEqDiff,reduceCtorEq,t11,t12,t13,t14]
          exact aV hk3 hkl ⟨u1,by rw[skip (by simp[hok])]; exact hc4,t1,t4,t6,t11,t12,t13,rfl⟩
        · simp (disch:=omega) only [↓wr,↓reduceIte,wq,ag,Nat.reduceEqDiff,Nat.reduceAdd,Nat.reduceLT,t6,t12,t14,hb4,dL,hnl,hlg,js,bD,List.getElem?_map,hx,bE]
          refine ⟨hil,hil,?_⟩
          refine av.dec (fun h0=>?_) (fun h0=>?_)
          · simp (disch:=omega) only [↓wr,↓reduceIte,wq,ab,ae,af,Nat.reduceEqDiff,Nat.reduceAdd,Nat.reduceLT,Nat.reduceLeDiff,t6,t12,t13,t14,hb4,dL,hnl,hlg,js,bD,List.getElem?_map,hx,bE,hnu,Bx hvs,hnv,u4 hw]
            refine ⟨hil,hil,hss,hvl,by omega,by omega,?_⟩
            intro q hq
            simp (disch:=omega) only [↓wr,↓reduceIte,wq,Nat.reduceEqDiff,bp]
            refine bO.goApp (hc4.fresh hq) (by simp[aU]) (by unfold aJ; rw[kY,List.length_map]; simp only[List.length_cons,List.length_nil]; omega) (by unfold aJ; rw[kY,List.length_map]; simp only[List.length_cons,List.length_nil]; omega) ?_
            intro u2 H5 hc5
            simp (disch:=omega) only [↓wr,↓reduceIte,wq,ag,Nat.reduceEqDiff,reduceCtorEq,t11,t12,t14]
            exact aV hk3 hkl ⟨u2,by rw[take ⟨hok,h0⟩,kY,List.map_append]; exact hc5,t1,t4,t6,t11,t12,rfl,rfl⟩
          · simp (disch:=omega) only [↓wr,↓reduceIte,wq,ag,Nat.reduceEqDiff,reduceCtorEq,t11,t12,t13,t14]
            exact aV hk3 hkl ⟨u1,by rw[skip (by omega)]; exact hc4,t1,t4,t6,t11,t12,t13,rfl⟩
      · simp (disch:=omega) only [↓wr,↓reduceIte,wq,Nat.reduceEqDiff,reduceCtorEq,t11,t12,t13]
        have hBl:=congrArg List.length hB
        simp only[List.length_map,List.length_take] at hBl
        have c13:=hc4.PK.cells
        have k13:=hc4.PK.fA
        rw[List.take_of_length_le (by omega)] at hc4
        have hll:(fi g a)[i]?=some (iC g a i):=by rw[fi,List.getElem?_map,List.getElem?_range (by omega)]; rfl
        simp (disch:=omega) only [↓wr,↓reduceIte,wq,c13,k13]
        intro q hq
        simp (disch:=omega) only [↓wr,↓reduceIte,wq,Nat.reduceEqDiff,bp,t11]
        refine bO.goApp ((hc4.PC (.swap _ _ _)).fresh hq) (by simp[k13]) (by unfold aJ; simp[cq]; omega) (by unfold aJ; simp[cq]; omega) ?_
        intro uo2 H5 hc5
        simp (disch:=omega) only [↓wr,↓reduceIte,wq,ag,Nat.reduceEqDiff,reduceCtorEq,t11,t12]
        refine aV hk2 (by omega) ⟨uo2,B ++ [(u1,iC g a i)],?_,?_,t1,t4,t6,rfl,rfl⟩
        · rw[List.map_append,hB,List.take_add_one,hll]; rfl
        · have e1:cq (B ++ [(u1,iC g a i)])=cq B ++ [[u1]]:=by simp[cq]
          have e2:Mr (B ++ [(u1,iC g a i)])=Mr B ++ [(u1,2,kY (iC g a i))]:=by simp[Mr]
          rw[e1,e2]
          exact hc5.PC (.cons _ (List.perm_append_singleton _ _).symm)
    · simp (disch:=omega) only [↓wr,↓reduceIte,wq,Nat.reduceEqDiff,reduceCtorEq,t11]
      rw[List.take_of_length_le (by simp[fi]; omega)] at hB
      rintro h' rfl
      rw[← hB]
      have ho:=(hc3.own.perm mE)
      refine vQ (Qi ho.head fun x hx=>ho.1 (x.1,2,kY x.2) (List.mem_cons_of_mem _ (List.mem_cons_of_mem _ (List.mem_cons_of_mem _ (List.mem_cons_of_mem _ (List.mem_append_right _ (List.mem_map.2 ⟨x,hx,rfl⟩)))))))
def l5:SC :=
  .seq (.seq (ak [aa 7 6,aa 8 0,aM 9 8,aR 10 .lss 7 9]) <|
  .cond (.tmp 10) (.skip) (.exit 0)) <|
  .seq (.block 1 (.seq (ak [aa 13 0,aa 14 6,aS 15 2 13 14,au 16 1 15,ao 17 16,aa 18 1,aQ 19 97 [17,18]]) <|
  .cond (.tmp 19) (ak [aa 20 5,aa 21 0,aa 22 6,aS 23 2 21 22,au 24 0 23,ao 25 24,((some 26),.op (.bh 1 1 [(.val (.int .i64 0))] [(0,(.tmp 25))])),((some 27),.op (.app 1 8 (.tmp 20) (.tmp 26))),aa 5 27]) (.skip))) <|
  ak [aa 11 6,az 12 .add 11 1,aa 6 12]
def oQ:SF:=⟨.seq (ak [((some 4),.op (.bo (.val (.emp 1))))]) <|
  .seq (ak [((some 5),.op (.bo (.val (.emp 1))))]) <|
  .seq (.seq (ak [aI 6 0]) <|
  .block 0 (.loop l5)) <|
  .seq (ak [aa 28 5,aa 4 28]) <|
  .ret,
  [.tmp 4],29⟩
theorem uU:aY Tryz.prog 51 []=some oQ:=by kernel_rfl
def nR:SF:=⟨.seq (ak [bW 3 0,aI 6 0]) <|
  .seq (.seq (.region false [⟨none,[aO 11 4 3,aQ 12 66 [11],bX 13 12,aa 14 13]⟩,⟨(some (14,false)),[aa 15 1,az 16 .lss 15 0]⟩,⟨none,[bB 17 14 16,aa 18 17]⟩,⟨(some (18,false)),[aa 19 1,au 20 2 3,ao 21 20,aM 22 21,aR 23 .geq 19 22]⟩,⟨none,[bB 24 18 23,aa 25 24]⟩,⟨(some (25,false)),[aa 26 2,az 27 .lss 26 0]⟩,⟨none,[bB 28 25 27,aa 29 28]⟩,⟨(some (29,false)),[aa 30 2,au 31 0 3,ao 32 31,aM 33 32,aR 34 .gtr 30 33]⟩,⟨none,[bB 35 29 34]⟩]) <|
  .cond (.tmp 35) (.seq (ak [aI 6 0]) <|
  .ret) (.skip)) <|
  .seq (ak [au 36 2 3,ao 37 36,aa 38 1,aS 39 3 37 38,au 40 2 39,ao 41 40,aa 7 41]) <|
  .seq (.seq (.region false [⟨none,[aa 42 2,au 43 0 3,ao 44 43,aM 45 44,aR 46 .eql 42 45,aa 47 46]⟩,⟨(some (47,false)),[aa 48 7,az 49 .lss 48 0]⟩,⟨none,[bB 50 47 49,aa 51 50]⟩,⟨(some (51,false)),[au 52 0 3,ao 53 52,aa 54 7,aS 55 3 53 54,au 56 1 55,ao 57 56,az 58 .eql 57 0]⟩,⟨none,[bB 59 51 58,aa 60 59]⟩,⟨(some (60,false)),[au 61 0 3,ao 62 61,aa 63 2,aS 64 3 62 63,au 65 1 64,ao 66 65,az 67 .eql 66 0]⟩,⟨none,[bB 68 60 67]⟩]) <|
  .cond (.tmp 68) (.seq (ak [aI 6 4]) <|
  .ret) (.skip)) <|
  .seq (ak [au 69 0 3,ao 70 69,aa 71 7,aS 72 3 70 71,au 73 1 72,ao 74 73,au 75 0 3,ao 76 75,aa 77 2,aS 78 3 76 77,au 79 1 78,ao 80 79,aa 8 74,aa 9 80]) <|
  .seq (ak [au 81 0 3,ao 82 81,aa 83 2,aS 84 3 82 83,au 85 2 84,ao 86 85,aa 10 86]) <|
  .seq (.block 0 (.seq (.region false [⟨none,[aa 88 8,aa 89 9,aR 90 .gtr 88 89,aa 91 90]⟩,⟨(some (91,false)),[aa 92 8,aa 93 9,aR 94 .eql 92 93,aa 95 94]⟩,⟨(some (95,true)),[aa 96 10,az 97 .eql 96 1]⟩,⟨(some (91,false)),[bF 98 95 97]⟩,⟨none,[bB 99 91 98,aa 87 99]⟩]) <|
  .cond (.tmp 87) (.seq (ak [aI 6 1]) <|
  .ret) (.seq (.region false [⟨none,[aa 101 8,aa 102 9,aR 103 .lss 101 102,aa 104 103]⟩,⟨(some (104,false)),[aa 105 10,az 106 .eql 105 2]⟩,⟨none,[bB 107 104 106,aa 100 107]⟩]) <|
  .cond (.tmp 100) (.seq (ak [aI 6 2]) <|
  .ret) (.skip)))) <|
  .seq (ak [aI 6 3]) <|
  .ret,
  [.tmp 6],108⟩
theorem ta:aY Tryz.prog 49 [3]=some nR:=by kernel_rfl
def mF:SC :=
  .seq (.seq (ak [aa 9 7,au 10 1 4,ao 11 10,aM 12 11,aR 13 .lss 9 12]) <|
  .cond (.tmp 13) (.skip) (.exit 0)) <|
  .seq (.block 1 (.seq (ak [au 16 1 4,ao 17 16,aa 18 7,aS 19 2 17 18,au 20 0 19,ao 21 20,aa 22 2,aR 23 .eql 21 22]) <|
  .cond (.tmp 23) (.seq (ak [au 24 1 4,ao 25 24,aa 26 7,aS 27 2 25 26,au 28 1 27,ao 29 28,((some 30),.op (.build [(.val (.int .i64 0)),(.val (.int .i64 0))] [(0,1,(.val (.val (.int .i64 1)))),(1,1,(.tmp 29))])),(none,.op (.store 2 (.tmp 6) (.tmp 30)))]) <|
  .ret) (.skip))) <|
  ak [aa 14 7,az 15 .add 14 1,aa 7 15]
def mf:SC :=
  .seq (.seq (ak [aa 31 8,au 32 0 4,ao 33 32,aM 34 33,aR 35 .lss 31 34]) <|
  .cond (.tmp 35) (.skip) (.exit 2)) <|
  .seq (.block 3 (.seq (.region false [⟨none,[aa 38 2,au 39 0 3,ao 40 39,aM 41 40,aR 42 .eql 38 41,aa 43 42]⟩,⟨(some (43,true)),[au 44 0 4,ao 45 44,aa 46 8,aS 47 2 45 46,aO 48 2 47,((some 49),.op (.build [(.val (.int .i64 0)),(.val (.int .i64 0))] [(0,1,(.val (.val (.int .i64 (-1))))),(1,1,(.val (.val (.int .i64 1))))])),((some 50),.op (.old (.binOp .eql 55 (.tmp 48) (.tmp 49) 55) 4))]⟩,⟨none,[bF 51 43 50]⟩]) <|
  .cond (.tmp 51) (.seq (ak [((some 52),.op (.build [(.val (.int .i64 0)),(.val (.int .i64 0))] [(0,1,(.val (.val (.int .i64 3))))])),(none,.op (.store 2 (.tmp 6) (.tmp 52)))]) <|
  .ret) (.skip))) <|
  ak [aa 36 8,az 37 .add 36 1,aa 8 37]
def n4:SF:=⟨.seq (ak [bW 3 0,bW 4 1,((some 6),.op (.alloc [(.val (.int .i64 0)),(.val (.int .i64 0))]))]) <|
  .seq (.seq (ak [aI 7 0]) <|
  .block 0 (.loop mF)) <|
  .seq (.seq (ak [aI 8 0]) <|
  .block 2 (.loop mf)) <|
  .seq (ak [((some 53),.op (.build [(.val (.int .i64 0)),(.val (.int .i64 0))] [])),(none,.op (.store 2 (.tmp 6) (.tmp 53)))]) <|
  .ret,
  [.cell 6 (some 2)],54⟩
theorem uK:aY Tryz.prog 101 [3,4]=some n4:=by kernel_rfl
theorem Kk (l:List dk) (hl:l.length≤10000) (n:Int):cH Tryz.prog 51 [.aX (kY l),gi n] (encI (gp l n)):=by
  refine cH.of (by
    intro v hv; simp at hv
    rcases hv with rfl | rfl
    · exact IB _
    · exact .val _) ?_
  refine aC.of mixed uU ?_
  simp (disch:=omega) only [↓wr,wq,ah,Nat.reduceAdd,Nat.reduceLeDiff,oQ,kY]
  refine ba.up l.length (fun i T H'=>∃ u:V,bc H' u 1 (bA (gp (l.take i) n))∧T 0=.aX (kY l)∧T 1=gi n∧T 5=u∧T 6=gi i) ⟨.emp 1,.nil,rfl,rfl,rfl,rfl⟩ ?_
  rintro i k T H hk ⟨u,ho,t0,t1,t5,t6⟩
  simp (disch:=omega) only [↓wr,↓reduceIte,wq,ag,aj,Nat.reduceEqDiff,reduceCtorEq,l5,t0,t6,kY]
  refine av.dec (fun hc=>?_) (fun hc=>?_)
  · have hx:l[i]?=some (l[i]'(by omega)):=List.getElem?_eq_getElem (by omega)
    generalize l[i]'(by omega)=x at hx
    have hft:gp (l.take (i+1)) n=if hasB x.set n=true then gp (l.take i) n ++ [x.aP] else gp (l.take i) n:=by
      unfold gp
      rw[Es hx]
      split <;> simp
    have hfl:(gp (l.take i) n).length≤i:=by
      unfold gp
      have:=List.length_filter_le (fun x:dk=>hasB x.set n) (l.take i)
      simp only[List.length_map,List.length_take] at this ⊢
      omega
    simp (disch:=omega) only [↓wr,↓reduceIte,wq,Nat.reduceEqDiff,Nat.reduceAdd,Nat.reduceLT,reduceCtorEq,t0,t1,t6,kY,List.getElem?_map,hx,Cf]
    refine aE.pure (Ph x.set n) (by kernel_rfl) ?_
    simp (disch:=omega) only [↓wr,↓reduceIte,wq]
    refine av.split (fun he=>?_) (fun he=>?_)
    · simp (disch:=omega) only [↓wr,↓reduceIte,wq,af,Nat.reduceEqDiff,Nat.reduceAdd,Nat.reduceLT,reduceCtorEq,t0,t5,t6,kY,List.getElem?_map,hx,Cf]
      intro q hq
      simp (disch:=omega) only [↓wr,↓reduceIte,wq,Nat.reduceEqDiff,bp]
      refine gz (ho.fresh hq) (by simp[aU]) (by unfold aJ; simp; omega) (by unfold aJ; simp; omega) ?_
      intro u2 H2 o2 _
      simp (disch:=omega) only [↓wr,↓reduceIte,wq,ag,Nat.reduceEqDiff,reduceCtorEq,t6]
      rw[if_pos he] at hft
      exact aV hk (by omega) ⟨u2,by rw[hft]; simpa using o2,t0,t1,rfl,rfl⟩
    · simp (disch:=omega) only [↓wr,↓reduceIte,wq,ag,Nat.reduceEqDiff,reduceCtorEq,t5,t6]
      rw[if_neg (by rw[he]; simp)] at hft
      exact aV hk (by omega) ⟨u,by rw[hft]; exact ho,t0,t1,t5,rfl⟩
  · rw[List.take_of_length_le (by omega)] at ho
    simp (disch:=omega) only [↓wr,↓reduceIte,wq,Nat.reduceEqDiff,reduceCtorEq,t5]
    rintro h' rfl
    exact sG ho
theorem DD {g:ay} {t:Int} {x:Term} (h:g.ax[t.toNat]?=some x):fj g t=x.level∧wc g t=x.assoc:=by
  simp[fj,wc,h]
set_option maxHeartbeats 8000000 in
theorem Ie (g:ay) (hg:g.Ok) (aP term:Int):aD Tryz.prog 49 [.agg (aw g),gi aP,gi term] (gi (kL g aP term)):=by
  refine aD.val (by
    intro v hv; simp at hv
    rcases hv with rfl | rfl | rfl
    · exact bL _ (bU g)
    · exact .val _
    · exact .val _) fun H=>?_
  have hr9:=iW g hg
  refine aC.of mixed ta ?_
  simp only[aw,encS] at hr9
  simp (disch:=omega) only [↓wr,↓reduceIte,wq,ah,Nat.reduceEqDiff,Nat.reduceAdd,Nat.reduceLeDiff,nR,aw,encS]
  refine aE.pure hr9 (by kernel_rfl) ?_
  have bad:bS g=false∨aP < 0∨(g.rules.length:Int)≤aP∨term < 0∨(g.ax.length:Int) < term→kL g aP term=0:=fun h=>by rw[kL,if_pos h]
  cases hr:bS g with
  | false =>
    simp (disch:=omega) only [↓wr,↓reduceIte,wq,Nat.reduceEqDiff,reduceCtorEq]
    rw[bad (.inl hr)]
  | true =>
    have hf:=cn hr
    simp (disch:=omega) only [↓wr,↓reduceIte,wq,ag,Nat.reduceEqDiff]
    refine av.dec (fun h1=>?_) (fun h1=>?_)
    · simp (disch:=omega) only [↓wr,↓reduceIte,wq,Nat.reduceEqDiff,reduceCtorEq]
      rw[bad (.inr (by omega))]
    simp (disch:=omega) only [↓wr,↓reduceIte,wq,ag,aj,Nat.reduceEqDiff,Nat.reduceAdd,Nat.reduceLT]
    refine av.dec (fun h2=>?_) (fun h2=>?_)
    · simp (disch:=omega) only [↓wr,↓reduceIte,wq,Nat.reduceEqDiff,reduceCtorEq]
      rw[bad (.inr (by omega))]
    simp (disch:=omega) only [↓wr,↓reduceIte,wq,ag,Nat.reduceEqDiff]
    refine av.dec (fun h3=>?_) (fun h3=>?_)
    · simp (disch:=omega) only [↓wr,↓reduceIte,wq,Nat.reduceEqDiff,reduceCtorEq]
      rw[bad (.inr (by omega))]
    simp (disch:=omega) only [↓wr,↓reduceIte,wq,ag,aj,Nat.reduceEqDiff,Nat.reduceAdd,Nat.reduceLT]
    refine av.dec (fun h4=>?_) (fun h4=>?_)
    · simp (disch:=omega) only [↓wr,↓reduceIte,wq,reduceCtorEq]
      rw[bad (.inr (by omega))]
    have hR:g.rules[aP.toNat]?=some (bk g aP):=by unfold bk; exact getD_some (by omega)
    have hP:=hf.prec _ (List.mem_of_getElem? hR)
    have e0:kL g aP term=if term=g.ax.length∨(bk g aP).prec < 0∨fj g (bk g aP).prec=0∨fj g term=0 then 4
        else if fj g term < fj g (bk g aP).prec∨fj g (bk g aP).prec=fj g term∧wc g term=1 then 1
        else if fj g (bk g aP).prec < fj g term∨wc g term=2 then 2 else 3:=by
      rw[kL,if_neg (by rw[hr]; simp; omega)]
    rw[e0]
    clear e0 bad
    generalize bk g aP=R at hR hP
    simp (disch:=omega) only [↓wr,↓reduceIte,wq,ag,aj,Nat.reduceEqDiff,Nat.reduceAdd,Nat.reduceLT,List.getElem?_map,hR,bP]
    refine av.eq (fun h5=>?_) (fun h5=>?_)
    · simp (disch:=omega) only [↓wr,↓reduceIte,wq,Nat.reduceEqDiff,reduceCtorEq]
      rw[if_pos (.inl h5)]
    simp (disch:=omega) only [↓wr,↓reduceIte,wq,ag,Nat.reduceEqDiff]
    refine av.dec (fun h6=>?_) (fun h6=>?_)
    · simp (disch:=omega) only [↓wr,↓reduceIte,wq,Nat.reduceEqDiff,reduceCtorEq]
      rw[if_pos (.inr (.inl h6))]
    have hp:g.ax[R.prec.toNat]?=some (g.ax[R.prec.toNat]'(by omega)):=List.getElem?_eq_getElem (by omega)
    have hq:g.ax[term.toNat]?=some (g.ax[term.toNat]'(by omega)):=List.getElem?_eq_getElem (by omega)
    generalize g.ax[R.prec.toNat]'(by omega)=p at hp
    generalize g.ax[term.toNat]'(by omega)=q at hq
    obtain ⟨l1,_⟩:=DD hp
    obtain ⟨l2,l3⟩:=DD hq
    rw[l1,l2,l3]
    simp (disch:=omega) only [↓wr,↓reduceIte,wq,ag,Nat.reduceEqDiff,Nat.reduceAdd,Nat.reduceLT,List.getElem?_map,hp,dP]
    refine av.eq (fun h7=>?_) (fun h7=>?_)
    · simp (disch:=omega) only [↓wr,↓reduceIte,wq,Nat.reduceEqDiff,reduceCtorEq]
      rw[if_pos (.inr (.inr (.inl h7)))]
    simp (disch:=omega) only [↓wr,↓reduceIte,wq,ag,Nat.reduceEqDiff,Nat.reduceAdd,Nat.reduceLT,List.getElem?_map,hq,dP]
    refine av.eq (fun h8=>?_) (fun h8=>?_)
    · simp (disch:=omega) only [↓wr,↓reduceIte,wq,reduceCtorEq]
      rw[if_pos (.inr (.inr (.inr h8)))]
    rw[if_neg (by omega)]
    simp (disch:=omega) only [↓wr,↓reduceIte,wq,ag,Nat.reduceEqDiff,Nat.reduceAdd,Nat.reduceLT,List.getElem?_map,hp,hq,dP]
    refine av.dec (fun h9=>?_) (fun h9=>?_)
    · simp (disch:=omega) only [↓wr,↓reduceIte,wq,Nat.reduceEqDiff,reduceCtorEq]
      rw[if_pos (by omega)]
    simp (disch:=omega) only [↓wr,↓reduceIte,wq,ag,Nat.reduceEqDiff]
    refine av.eq (fun h10=>?_) (fun h10=>?_)
    · simp (disch:=omega) only [↓wr,↓reduceIte,wq,ag,Nat.reduceEqDiff]
      refine av.eq (fun h11=>?_) (fun h11=>?_)
      · simp (disch:=omega) only [↓wr,↓reduceIte,wq,reduceCtorEq]
        rw[if_pos (by omega)]
      · simp (disch:=omega) only [↓wr,↓reduceIte,wq,ag,Nat.reduceEqDiff]
        rw[if_neg (by omega)]
        refine av.dec (fun h12=>?_) (fun h12=>?_)
        · simp (disch:=omega) only [↓wr,↓reduceIte,wq,Nat.reduceEqDiff,reduceCtorEq]
          rw[if_pos (by omega)]
        simp (disch:=omega) only [↓wr,↓reduceIte,wq,ag,Nat.reduceEqDiff]
        refine av.eq (fun h13=>?_) (fun h13=>?_)
        · simp (disch:=omega) only [↓wr,↓reduceIte,wq,reduceCtorEq]
          rw[if_pos (by omega)]
        · simp (disch:=omega) only [↓wr,↓reduceIte,wq,Nat.reduceEqDiff,reduceCtorEq]
          rw[if_neg (by omega)]
    · simp (disch:=omega) only [↓wr,↓reduceIte,wq,ag,Nat.reduceEqDiff]
      rw[if_neg (by omega)]
      refine av.dec (fun h12=>?_) (fun h12=>?_)
      · simp (disch:=omega) only [↓wr,↓reduceIte,wq,Nat.reduceEqDiff,reduceCtorEq]
        rw[if_pos (by omega)]
      simp (disch:=omega) only [↓wr,↓reduceIte,wq,ag,Nat.reduceEqDiff]
      refine av.eq (fun h13=>?_) (fun h13=>?_)
      · simp (disch:=omega) only [↓wr,↓reduceIte,wq,reduceCtorEq]
        rw[if_pos (by omega)]
      · simp (disch:=omega) only [↓wr,↓reduceIte,wq,Nat.reduceEqDiff,reduceCtorEq]
        rw[if_neg (by omega)]
theorem B3:∀ (l:List de) (s:Int) (i:Nat),(∀ j e,j < i→l[j]?=some e→e.sym≠s)→(∀ e,l[i]?=some e→e.sym=s→nS l s=some ⟨1,e.to⟩)∧(l.length≤i→nS l s=none)
  | [],s,i,_=>⟨fun e h=>by simp at h,fun _=>rfl⟩
  | x :: l,s,0,_=>⟨fun e h hs=>by simp at h; subst h; simp[nS,hs],fun h=>by simp at h⟩
  | x :: l,s,i+1,h=>by
    have h0:=h 0 x (by omega) rfl
    obtain ⟨h1,h2⟩:=B3 l s i fun j e hj he=>h (j+1) e (by omega) (by simpa using he)
    refine ⟨fun e he hs=>?_,fun hl=>?_⟩
    · rw[nS,if_neg h0]; exact h1 e (by simpa using he) hs
    · rw[nS,if_neg h0]; exact h2 (by simpa using hl)
set_option maxHeartbeats 8000000 in
theorem KA (g:ay) (hg:g.Ok) (s:bt) (hs:aL s.cp∧aL s.bG) (t:Int):aD Tryz.prog 101 [.agg (aw g),.agg (eo s),gi t] (.agg (bC (jg g s t))):=by
  obtain ⟨hs1,hs2⟩:=hs
  have hT:=hg.ax
  unfold aL at hs1 hs2 hT
  refine aD.tree (by
    intro v hv; simp at hv
    rcases hv with rfl | rfl | rfl
    · exact bL _ (bU g)
    · exact bL _ (xg s)
    · exact .val _) (bL _ (m0 _)) fun H=>?_
  refine aC.of mixed uK ?_
  simp (disch:=omega) only [↓wr,↓reduceIte,wq,ah,Nat.reduceEqDiff,Nat.reduceAdd,Nat.reduceLeDiff,n4]
  refine ⟨rfl,rfl,fun b hb=>?_⟩
  refine ba.up s.cp.length (fun i T H'=>(∀ j e,j < i→s.cp[j]?=some e→e.sym≠t)∧H' b=.arr 2 [[gi 0,gi 0]]∧T 2=gi t∧T 3=.aT (aw g) 0∧T 4=.aT (eo s) 0∧T 6=.ptr b 0 0∧T 7=gi i) ⟨fun j e h=>by omega,by simp[View.set],rfl,rfl,rfl,rfl,rfl⟩ ?_
  rintro i k T H hk ⟨hall,hb,t2,t3,t4,t6,t7⟩
  obtain ⟨f1,f2⟩:=B3 s.cp t i hall
  simp (disch:=omega) only [↓wr,↓reduceIte,wq,ag,aj,Nat.reduceEqDiff,Nat.reduceAdd,Nat.reduceLT,mF,t4,t7,eo,lB]
  refine av.dec (fun hc=>?_) (fun hc=>?_)
  · have hE:s.cp[i]?=some (s.cp[i]'(by omega)):=List.getElem?_eq_getElem (by omega)
    generalize s.cp[i]'(by omega)=E at hE
    simp (disch:=omega) only [↓wr,↓reduceIte,wq,ag,Nat.reduceEqDiff,Nat.reduceAdd,Nat.reduceLT,t2,t4,t7,eo,lB,List.getElem?_map,hE,dn]
    refine av.eq (fun he=>?_) (fun he=>?_)
    · simp (disch:=omega) only [↓wr,↓reduceIte,wq,ag,ab,ae,Nat.reduceEqDiff,Nat.reduceAdd,Nat.reduceLT,Nat.reduceLeDiff,reduceCtorEq,t4,t6,t7,eo,lB,List.getElem?_map,hE,dn,hb]
      rw[jg,f1 E hE he]
      rfl
    · simp (disch:=omega) only [↓wr,↓reduceIte,wq,ag,Nat.reduceEqDiff,reduceCtorEq,t6,t7]
      refine aV hk (by omega) ⟨fun j e hj hje=>?_,hb,t2,t3,t4,t6,rfl⟩
      rcases Nat.lt_or_ge j i with h | h
      · exact hall j e h hje
      · have:j=i:=by omega
        subst this
        rw[hE] at hje; simp at hje; subst hje; exact he
  have hnone:=f2 (by omega)
  simp (disch:=omega) only [↓wr,↓reduceIte,wq,Nat.reduceEqDiff,reduceCtorEq,t6]
  refine ba.up s.bG.length (fun i T H'=>(t=g.ax.length→∀ j x,j < i→s.bG[j]?=some x→x≠(⟨-1,1⟩:aN))∧H' b=.arr 2 [[gi 0,gi 0]]∧T 2=gi t∧T 3=.aT (aw g) 0∧T 4=.aT (eo s) 0∧T 6=.ptr b 0 0∧T 8=gi i) ⟨fun _ j e h=>by omega,hb,t2,t3,t4,t6,rfl⟩ ?_
  clear hall hb t2 t3 t4 t6 t7 f1 f2
  rintro i k2 T2 H2 hk2 ⟨hall,hb,t2,t3,t4,t6,t8⟩
  simp (disch:=omega) only [↓wr,↓reduceIte,wq,ag,aj,ab,ae,Nat.reduceEqDiff,Nat.reduceAdd,Nat.reduceLT,Int.reduceNeg,mf,t4,t8,eo,bD]
  refine av.dec (fun hc2=>?_) (fun hc2=>?_)
  · have hx:s.bG[i]?=some (s.bG[i]'(by omega)):=List.getElem?_eq_getElem (by omega)
    generalize s.bG[i]'(by omega)=x at hx
    simp (disch:=omega) only [↓wr,↓reduceIte,wq,ag,aj,Nat.reduceEqDiff,Nat.reduceAdd,Nat.reduceLT,Int.reduceNeg,t2,t3,aw]
    refine av.eq (fun ht=>?_) (fun ht=>?_)
    · simp (disch:=omega) only [↓wr,↓reduceIte,wq,ab,ae,Nat.reduceEqDiff,Nat.reduceAdd,Nat.reduceLT,Nat.reduceLeDiff,Int.reduceNeg,t4,t8,eo,bD,List.getElem?_map,hx,bE]
      refine gB (xs:=#[.int .i64 x.aP,.int .i64 x.dot]) (ys:=#[.int .i64 (-1),.int .i64 1]) Tryz.underlying55 (by kernel_rfl) (by kernel_rfl) ?_ ?_ (tQ x ⟨-1,1⟩) (.inl ⟨rfl,rfl⟩) ?_
      · rfl
      · rfl
      rw[Bv]
      simp (disch:=omega) only [↓wr,↓reduceIte,wq,Nat.reduceEqDiff,Int.reduceNeg]
      refine av.dec (fun he=>?_) (fun he=>?_)
      · simp (disch:=omega) only [↓wr,↓reduceIte,wq,ag,ab,ae,Nat.reduceEqDiff,Nat.reduceAdd,Nat.reduceLT,Nat.reduceLeDiff,Int.reduceNeg,reduceCtorEq,t6,t8,hb]
        rw[jg,hnone]
        simp only
        rw[if_pos ⟨ht,he ▸ List.mem_of_getElem? hx⟩]
        rfl
      · simp (disch:=omega) only [↓wr,↓reduceIte,wq,ag,Nat.reduceEqDiff,Int.reduceNeg,reduceCtorEq,t6,t8]
        refine aV hk2 (by omega) ⟨fun _ j e hj hje=>?_,hb,t2,t3,t4,t6,rfl⟩
        rcases Nat.lt_or_ge j i with h | h
        · exact hall ht j e h hje
        · have:j=i:=by omega
          subst this
          rw[hx] at hje; simp at hje; subst hje; exact he
    · simp (disch:=omega) only [↓wr,↓reduceIte,wq,ag,Nat.reduceEqDiff,Int.reduceNeg,reduceCtorEq,t6,t8]
      exact aV hk2 (by omega) ⟨fun h=>absurd h ht,hb,t2,t3,t4,t6,rfl⟩
  · simp (disch:=omega) only [↓wr,↓reduceIte,wq,Nat.reduceEqDiff,Nat.reduceAdd,Nat.reduceLT,Nat.reduceLeDiff,reduceCtorEq,t6,hb]
    rw[jg,hnone]
    simp only
    rw[if_neg]
    · rfl
    · rintro ⟨h1,h2⟩
      obtain ⟨j,hj,e⟩:=List.mem_iff_getElem.1 h2
      exact hall h1 j _ (by omega) (by rw[List.getElem?_eq_getElem hj,e]) rfl
def KM (c:lL):List V:=[gi c.state,gi c.term,gi c.kind,gi c.aP,gi c.other]
def ke (l:List lL):List (List V):=l.map KM
theorem kE (l:List lL):(ke l).length=l.length:=by simp[ke]
theorem G4 {h:aH} {u:V} {l:List lL} (ho:bc h.view u 5 (ke l)):bZ h u (.aX (ke l)):=by
  refine bZ.own ho rfl (fun i _=>rfl) (fun i j hi hj=>?_)
  rw[kE] at hi
  have e:(ke l).getD i []=KM l[i]:=by simp[ke,List.getD_eq_getElem?_getD,hi]
  rw[e] at hj ⊢
  match j,hj with
  | 0,_=>exact .val _
  | 1,_=>exact .val _
  | 2,_=>exact .val _
  | 3,_=>exact .val _
  | 4,_=>exact .val _
theorem AS {h:aH} {u v:V} {c:Cell} (hu:bZ h u v):bZ h (.bf [.agg [gi c.kind,gi c.n],u]) (.bf [.agg (bC c),v]):=.bf _ _ rfl fun i hi=>by
  match i,hi with
  | 0,_=>exact Dd (.val _) (.val _)
  | 1,_=>exact hu
def nC:SC :=
  .seq (.seq (ak [aa 29 15,aa 30 13,aM 31 30,aR 32 .lss 29 31]) <|
  .cond (.tmp 32) (.skip) (.exit 0)) <|
  .seq (.block 1 (ak [aa 35 14,aa 36 3,aa 37 4,aa 38 13,aa 39 15,aS 40 1 38 39,ao 41 40,aa 42 13,((some 43),.op (.idx 1 (.tmp 42) (.val (.val (.int .i64 0))))),ao 44 43,((some 45),.op (.build [(.val (.int .i64 0)),(.val (.int .i64 0)),(.val (.int .i64 0)),(.val (.int .i64 0)),(.val (.int .i64 0))] [(0,1,(.tmp 36)),(1,1,(.tmp 37)),(2,1,(.val (.val (.int .i64 5)))),(3,1,(.tmp 41)),(4,1,(.tmp 44))])),((some 46),.op (.bh 1 5 [(.val (.int .i64 0)),(.val (.int .i64 0)),(.val (.int .i64 0)),(.val (.int .i64 0)),(.val (.int .i64 0))] [(0,(.tmp 45))])),((some 47),.op (.app 5 40 (.tmp 35) (.tmp 46))),aa 14 47])) <|
  ak [aa 33 15,az 34 .add 33 1,aa 15 34]
def pY:SF:=⟨.seq (ak [bW 5 0,bW 6 1,((some 10),.op (.alloc [(.val (.int .i64 0)),(.val (.int .i64 0))])),((some 11),.op (.bo (.val (.emp 1))))]) <|
  .seq (ak [aO 18 4 5,aO 19 2 6,aa 20 4,aQ 21 101 [18,19,20],((some 12),.op (.alloc [(.val (.int .i64 0)),(.val (.int .i64 0))])),(none,.op (.store 2 (.tmp 12) (.tmp 21)))]) <|
  .seq (ak [aa 22 2,aa 23 4,aQ 24 51 [22,23],aa 13 24]) <|
  .seq (.seq (ak [aa 25 13,aM 26 25,az 27 .eql 26 0]) <|
  .cond (.tmp 27) (.seq (ak [aO 28 2 12,(none,.op (.store 2 (.tmp 10) (.tmp 28))),((some 11),.op (.bo (.val (.emp 1))))]) <|
  .ret) (.skip)) <|
  .seq (ak [((some 14),.op (.bo (.val (.emp 1))))]) <|
  .seq (.seq (ak [aI 15 1]) <|
  .block 0 (.loop nC)) <|
  .seq (ak [aa 48 13,((some 49),.op (.idx 1 (.tmp 48) (.val (.val (.int .i64 0))))),ao 50 49,((some 51),.op (.build [(.val (.int .i64 0)),(.val (.int .i64 0))] [(0,1,(.val (.val (.int .i64 2)))),(1,1,(.tmp 50))])),((some 16),.op (.alloc [(.val (.int .i64 0)),(.val (.int .i64 0))])),(none,.op (.store 2 (.tmp 16) (.tmp 51)))]) <|
  .seq (.seq (ak [au 52 0 12,ao 53 52,az 54 .eql 53 0]) <|
  .cond (.tmp 54) (.seq (ak [aO 55 2 16,aa 56 14,(none,.op (.store 2 (.tmp 10) (.tmp 55))),aa 11 56]) <|
  .ret) (.skip)) <|
  .seq (ak [aO 57 4 5,aa 58 13,((some 59),.op (.idx 1 (.tmp 58) (.val (.val (.int .i64 0))))),ao 60 59,aa 61 4,aQ 62 49 [57,60,61],aa 17 62]) <|
  .seq (ak [aa 63 14,aa 64 3,aa 65 4,aa 66 17,aa 67 13,((some 68),.op (.idx 1 (.tmp 67) (.val (.val (.int .i64 0))))),ao 69 68,((some 70),.op (.build [(.val (.int .i64 0)),(.val (.int .i64 0)),(.val (.int .i64 0)),(.val (.int .i64 0)),(.val (.int .i64 0))] [(0,1,(.tmp 64)),(1,1,(.tmp 65)),(2,1,(.tmp 66)),(3,1,(.tmp 69)),(4,1,(.val (.val (.int .i64 (-1)))))])),((some 71),.op (.bh 1 5 [(.val (.int .i64 0)),(.val (.int .i64 0)),(.val (.int .i64 0)),(.val (.int .i64 0)),(.val (.int .i64 0))] [(0,(.tmp 70))])),((some 72),.op (.app 5 40 (.tmp 63) (.tmp 71))),aa 14 72]) <|
  .seq (.seq (ak [aa 73 17]) <|
  .block 2 (.seq (ak [az 75 .eql 73 1,aa 74 75]) <|
  .cond (.tmp 74) (.seq (ak [aO 76 2 16,aa 77 14,(none,.op (.store 2 (.tmp 10) (.tmp 76))),aa 11 77]) <|
  .ret) (.seq (ak [az 79 .eql 73 3,aa 78 79]) <|
  .cond (.tmp 78) (.seq (ak [((some 80),.op (.build [(.val (.int .i64 0)),(.val (.int .i64 0))] [])),aa 81 14,(none,.op (.store 2 (.tmp 10) (.tmp 80))),aa 11 81]) <|
  .ret) (.skip)))) <|
  .seq (ak [aO 82 2 12,aa 83 14,(none,.op (.store 2 (.tmp 10) (.tmp 82))),aa 11 83]) <|
  .ret,
  [.cell 10 (some 2),.tmp 11],84⟩
theorem vY:aY Tryz.prog 54 [5,6]=some pY:=by kernel_rfl
theorem BO (l:List dk) (n:Int):(gp l n).length≤l.length:=by
  unfold gp; rw[List.length_map]; exact List.length_filter_le _ _
set_option maxHeartbeats 16000000 in
theorem LC (g:ay) (hg:g.Ok) (s:bt) (hs:aL s.cp∧aL s.bG) (l:List dk) (hl:l.length≤10000) (st t:Int):cH Tryz.prog 54 [.agg (aw g),.agg (eo s),.aX (kY l),gi st,gi t] (.bf [.agg (bC (gI g s l st t).1),.aX (ke (gI g s l st t).2)]):=by
  refine cH.of (by
    intro v hv; simp at hv
    rcases hv with rfl | rfl | rfl | rfl | rfl
    · exact bL _ (bU g)
    · exact bL _ (xg s)
    · exact IB _
    · exact .val _
    · exact .val _) ?_
  have hsh:=KA g hg s hs t
  have hru:=(Kk l hl t).pure
  have hrl:=BO l t
  refine aC.of mixed vY ?_
  simp only[aw,encS,eo] at hsh
  simp (disch:=omega) only [↓wr,↓reduceIte,wq,ah,Nat.reduceEqDiff,Nat.reduceAdd,Nat.reduceLeDiff,Int.reduceNeg,pY,aw,encS,eo]
  intro b10
  refine aE.pure hsh (by kernel_rfl) ?_
  unfold gI
  generalize jg g s t=x
  have o1:=bK.nil.new (n:=b10) (H:=fun _=>cU.dead) rfl 2 [[gi 0,gi 0]]
  simp (disch:=omega) only [↓wr,↓reduceIte,wq,ab,Nat.reduceEqDiff,Nat.reduceAdd,Nat.reduceLT,Nat.reduceLeDiff,Int.reduceNeg,bC]
  intro b12 hb12
  rw[set_set]
  have o2:=o1.new (n:=b12) (by simpa [View.set] using hb12) 2 [[gi x.kind,gi x.n]]
  clear o1
  generalize (View.set (fun _=>cU.dead) b10 (.arr 2 [[gi 0,gi 0]])).set b12 (.arr 2 [[gi x.kind,gi x.n]])=H1 at o2 ⊢
  refine aE.pure hru (by kernel_rfl) ?_
  cases hr:gp l t with
  | nil =>
    have h12:=o2.is 0 rfl (by simp)
    have h10:=o2.is 1 rfl (by simp)
    simp (disch:=omega) only [↓wr,↓reduceIte,wq,ag,aj,Int.reduceNeg,encI]
    refine av.eq (fun _=>?_) (fun h=>absurd rfl h)
    simp (disch:=omega) only [↓wr,↓reduceIte,wq,ab,Nat.reduceEqDiff,Nat.reduceAdd,Nat.reduceLT,Nat.reduceLeDiff,Int.reduceNeg,reduceCtorEq,h12,h10]
    intro h' _
    exact AS (.emp _)
  | cons r rs =>
    rw[hr] at hrl
    simp only[List.length_cons] at hrl
    simp (disch:=omega) only [↓wr,↓reduceIte,wq,ag,aj,Int.reduceNeg,encI]
    refine av.eq (fun h=>absurd h (by simp; omega)) (fun _=>?_)
    simp (disch:=omega) only [↓wr,wq,Int.reduceNeg]
    refine ba.up rs.length (fun j T H'=>∃ u:V,bK H' [(u,5,ke (jQ st t r (rs.take j))),(.sl b12 0 1 2,2,[[gi x.kind,gi x.n]]),(.sl b10 0 1 2,2,[[gi 0,gi 0]])]∧T 3=gi st∧T 4=gi t∧T 5=.aT (aw g) 0∧T 10=.ptr b10 0 0∧T 12=.ptr b12 0 0∧T 13=encI (r :: rs)∧T 14=u∧T 15=gi ((j:Int)+1)) ⟨.emp 1,o2.emp,rfl,rfl,rfl,rfl,rfl,rfl,rfl,rfl⟩ ?_
    clear o2
    rintro j k T H hk ⟨u,ho,t3,t4,t5,t10,t12,t13,t14,t15⟩
    simp (disch:=omega) only [↓wr,↓reduceIte,wq,ag,aj,Nat.reduceEqDiff,Int.reduceNeg,Int.reduceToNat,nC,t13,t15,encI]
    refine av.dec (fun hc=>?_) (fun hc=>?_)
    · have hx:rs[j]?=some (rs[j]'(by omega)):=List.getElem?_eq_getElem (by omega)
      generalize rs[j]'(by omega)=y at hx
      have hx2:([gi r] :: rs.map fun x=>[gi x])[((j:Int)+1).toNat]?=some [gi y]:=by rw[show ((j:Int)+1).toNat=j+1 by omega]; simp[hx]
      have htk:jQ st t r (rs.take (j+1))=jQ st t r (rs.take j) ++ [⟨st,t,5,y,r⟩]:=by
        rw[List.take_add_one,hx]; simp[jQ]
      simp (disch:=omega) only [↓wr,↓reduceIte,wq,ab,ae,af,Nat.reduceEqDiff,Nat.reduceAdd,Nat.reduceLT,Nat.reduceLeDiff,Int.reduceNeg,Int.reduceToNat,t3,t4,t13,t14,t15,encI,hx2,List.getElem?_cons_zero]
      intro q hq
      simp (disch:=omega) only [↓wr,↓reduceIte,wq,Nat.reduceEqDiff,Int.reduceNeg,bp]
      refine bQ (ho.fresh hq) (by simp[aU]) (by unfold aJ; rw[kE]; simp[jQ]; omega) (by unfold aJ; rw[kE]; simp[jQ]; omega) ?_
      intro u2 H2 o2 _
      simp (disch:=omega) only [↓wr,↓reduceIte,wq,ag,Nat.reduceEqDiff,Int.reduceNeg,reduceCtorEq,t10,t13,t15]
      exact aV hk (by omega) ⟨u2,by rw[htk,ke,List.map_append]; exact o2,t3,t4,t5,t10,t12,t13,rfl,rfl⟩
    · rw[List.take_of_length_le (by omega)] at ho
      simp (disch:=omega) only [↓wr,↓reduceIte,wq,ab,ae,Nat.reduceEqDiff,Nat.reduceAdd,Nat.reduceLT,Nat.reduceLeDiff,Int.reduceNeg,reduceCtorEq,t10,t12,t13,encI,List.getElem?_cons_zero]
      intro b16 hb16
      rw[set_set]
      have o3:=ho.new hb16 2 [[gi 2,gi r]]
      have h120:=ho.is 1 rfl (by simp)
      have n12:¬ b12=b16:=by rintro rfl; rw[h120] at hb16; simp at hb16
      clear ho
      simp (disch:=omega) only [↓wr,↓reduceIte,wq,ag,Nat.reduceAdd,Nat.reduceLT,Int.reduceNeg,n12,h120]
      generalize H.set b16 (.arr 2 [[gi 2,gi r]])=H2 at o3 ⊢
      have h16:=o3.is 0 rfl (by simp)
      have h12:=o3.is 2 rfl (by simp)
      have h10:=o3.is 3 rfl (by simp)
      refine av.eq (fun hz=>?_) (fun hz=>?_)
      · simp (disch:=omega) only [↓wr,↓reduceIte,wq,ab,Nat.reduceEqDiff,Nat.reduceAdd,Nat.reduceLT,Nat.reduceLeDiff,Int.reduceNeg,reduceCtorEq,t10,t14,h16,h10]
        rintro h' hv
        rw[if_pos hz]
        have o4:=(o3.at 3 (by simp)).put (es':=[[gi 2,gi r]]) rfl rfl
        simp only[List.eraseIdx_cons_succ,List.eraseIdx_cons_zero] at o4
        rw[← hv] at o4
        exact AS (c:=⟨2,r⟩) (G4 (o4.own 2 rfl))
      · have hse:=Ie g hg r t
        simp only[aw,encS] at hse
        simp (disch:=omega) only [↓wr,↓reduceIte,wq,Nat.reduceEqDiff,Nat.reduceAdd,Nat.reduceLT,Nat.reduceLeDiff,Int.reduceNeg,Int.reduceToNat,t4,t5,t13,encI,List.getElem?_cons_zero,aw,encS]
        refine aE.pure hse (by kernel_rfl) ?_
        rw[if_neg hz]
        generalize kL g r t=how
        simp (disch:=omega) only [↓wr,↓reduceIte,wq,ab,ae,af,Nat.reduceEqDiff,Nat.reduceAdd,Nat.reduceLT,Nat.reduceLeDiff,Int.reduceNeg,Int.reduceToNat,t3,t4,t13,t14,encI,List.getElem?_cons_zero]
        intro q hq
        simp (disch:=omega) only [↓wr,↓reduceIte,wq,Nat.reduceEqDiff,Int.reduceNeg,bp]
        have o4:=(o3.fresh (o:=.arr 5 [[gi st,gi t,gi how,gi r,gi (-1)]]) hq).at 1 (by simp)
        refine bQ o4 (by simp[aU]) (by unfold aJ; simp only[kE]; simp[jQ]; omega) (by unfold aJ; simp only[kE]; simp[jQ]; omega) ?_
        intro u2 H3 o5 _
        simp only[List.eraseIdx_cons_succ,List.eraseIdx_cons_zero] at o5
        have h16:=o5.is 1 rfl (by simp)
        have h12:=o5.is 2 rfl (by simp)
        have h10:=o5.is 3 rfl (by simp)
        have o6:bK H3 ((u2,5,ke (jQ st t r rs ++ [⟨st,t,how,r,-1⟩])) :: [(.sl b16 0 1 2,2,[[gi 2,gi r]]),(.sl b12 0 1 2,2,[[gi x.kind,gi x.n]]),(.sl b10 0 1 2,2,[[gi 0,gi 0]])]):=by
          rw[ke,List.map_append]; exact o5
        have fin:∀ (c:Cell) (h':aH),h'.view=H3.set b10 (.arr 2 [bC c])→bZ h' (.bf [.agg [gi c.kind,gi c.n],u2]) (.bf [.agg (bC c),.aX (ke (jQ st t r rs ++ [⟨st,t,how,r,-1⟩]))]):=fun c h' hv=>by
          have o7:=(o6.at 3 (by simp)).put (es':=[bC c]) rfl rfl
          simp only[List.eraseIdx_cons_succ,List.eraseIdx_cons_zero] at o7
          rw[← hv] at o7
          exact AS (G4 (o7.own 1 rfl))
        simp (disch:=omega) only [↓wr,↓reduceIte,wq,ag,Nat.reduceEqDiff,Int.reduceNeg]
        refine av.eq (fun e1=>?_) (fun e1=>?_)
        · simp (disch:=omega) only [↓wr,↓reduceIte,wq,ab,Nat.reduceEqDiff,Nat.reduceAdd,Nat.reduceLT,Nat.reduceLeDiff,Int.reduceNeg,reduceCtorEq,t10,h16,h10]
          rw[if_pos e1]
          exact fun h' hv=>fin ⟨2,r⟩ h' hv
        · simp (disch:=omega) only [↓wr,↓reduceIte,wq,ag,Nat.reduceEqDiff,Int.reduceNeg]
          rw[if_neg e1]
          refine av.eq (fun e3=>?_) (fun e3=>?_)
          · simp (disch:=omega) only [↓wr,↓reduceIte,wq,ab,ae,Nat.reduceEqDiff,Nat.reduceAdd,Nat.reduceLT,Nat.reduceLeDiff,Int.reduceNeg,reduceCtorEq,t10,h10]
            rw[if_pos e3]
            exact fun h' hv=>fin ⟨0,0⟩ h' hv
          · simp (disch:=omega) only [↓wr,↓reduceIte,wq,ab,Nat.reduceEqDiff,Nat.reduceAdd,Nat.reduceLT,Nat.reduceLeDiff,Int.reduceNeg,reduceCtorEq,t10,t12,h12,h10]
            rw[if_neg e3]
            exact fun h' hv=>fin x h' hv
def ml:SC :=
  .seq (.seq (ak [aa 40 13,au 41 0 1,ao 42 41,aM 43 42,aR 44 .leq 40 43]) <|
  .cond (.tmp 44) (.skip) (.exit 2)) <|
  .seq (.block 3 (.seq (.kH [] [⟨none,[aO 48 4 1,aa 49 5,aa 50 11,aS 51 2 49 50,aO 52 2 51,aa 53 7,aa 54 11,aS 55 1 53 54,ao 56 55,aa 57 11,aa 58 13,aQ 59 54 [48,52,56,57,58],aa 47 59,bH 60 0 47,bH 61 1 47,((some 14),.op (.alloc [(.val (.int .i64 0)),(.val (.int .i64 0))])),(none,.op (.store 2 (.tmp 14) (.tmp 60))),aa 15 61]⟩]) <|
  .seq (ak [aa 62 12,aO 63 2 14,((some 64),.op (.bh 1 2 [(.val (.int .i64 0)),(.val (.int .i64 0))] [(0,(.tmp 63))])),((some 65),.op (.app 2 16 (.tmp 62) (.tmp 64))),aa 12 65]) <|
  ak [aa 66 10,aa 67 15,((some 68),.op (.app 5 40 (.tmp 66) (.tmp 67))),aa 10 68])) <|
  ak [aa 45 13,az 46 .add 45 1,aa 13 46]
def mH:SC :=
  .seq (.seq (ak [aa 69 17,au 70 1 1,ao 71 70,aM 72 71,aR 73 .lss 69 72]) <|
  .cond (.tmp 73) (.skip) (.exit 4)) <|
  .seq (.block 5 (.seq (ak [aa 77 5,aa 78 11,aa 79 17,((some 80),.op (.arith .sub (.val (.val (.int .i64 (-1)))) (.tmp 79))),((some 81),.op (.bh 1 1 [(.val (.int .i64 0))] [(0,(.tmp 80))])),aQ 82 37 [77,78,81],aa 76 82,bH 83 0 76,bH 84 1 76,aa 18 83,aa 19 84]) <|
  .seq (.seq (ak [aa 85 19,bX 86 85]) <|
  .cond (.tmp 86) (ak [aI 18 (-1)]) (.skip)) <|
  ak [aa 87 16,aa 88 18,((some 89),.op (.bh 1 1 [(.val (.int .i64 0))] [(0,(.tmp 88))])),((some 90),.op (.app 1 8 (.tmp 87) (.tmp 89))),aa 16 90])) <|
  ak [aa 74 17,az 75 .add 74 1,aa 17 75]
def mP:SC :=
  .seq (.seq (ak [aa 34 11,aa 35 5,aM 36 35,aR 37 .lss 34 36]) <|
  .cond (.tmp 37) (.skip) (.exit 0)) <|
  .seq (.block 1 (.seq (ak [((some 12),.op (.bo (.val (.emp 1))))]) <|
  .seq (.seq (ak [aI 13 0]) <|
  .block 2 (.loop ml)) <|
  .seq (ak [((some 16),.op (.bo (.val (.emp 1))))]) <|
  .seq (.seq (ak [aI 17 0]) <|
  .block 4 (.loop mH)) <|
  .kH [(96,92)] [⟨none,[au 91 0 9,ao 92 91,aa 93 12,((some 94),.op (.bh 1 1 [(.emp 1)] [(0,(.tmp 93))])),((some 95),.op (.app 1 24 (.tmp 92) (.tmp 94))),au 96 1 9,ao 97 96,aa 98 16,((some 99),.op (.bh 1 1 [(.emp 1)] [(0,(.tmp 98))])),((some 100),.op (.app 1 24 (.tmp 97) (.tmp 99))),au 101 0 9,(none,.op (.store 1 (.tmp 101) (.tmp 95))),au 102 1 9,(none,.op (.store 1 (.tmp 102) (.tmp 100)))]⟩])) <|
  ak [aa 38 11,az 39 .add 38 1,aa 11 39]
def oK:SF:=⟨.seq (ak [bW 1 0,((some 2),.op (.alloc [(.emp 1),(.emp 1)])),((some 3),.op (.bo (.val (.emp 1)))),aI 4 0]) <|
  .seq (ak [aO 21 4 1,aQ 22 33 [21],aa 20 22,bH 23 0 20,bH 24 1 20,aa 5 23,aa 6 24]) <|
  .seq (.seq (ak [aa 25 6,az 26 .neq 25 0]) <|
  .cond (.tmp 26) (.seq (ak [((some 27),.op (.build [(.emp 1),(.emp 1)] [])),aa 28 6,(none,.op (.store 2 (.tmp 2) (.tmp 27))),((some 3),.op (.bo (.val (.emp 1)))),aa 4 28]) <|
  .ret) (.skip)) <|
  .seq (ak [aO 30 4 1,aQ 31 50 [30],aa 29 31,bH 32 0 29,bH 33 1 29,aa 7 32,aa 8 33]) <|
  .seq (ak [((some 9),.op (.alloc [(.emp 1),(.emp 1)]))]) <|
  .seq (ak [((some 10),.op (.bo (.val (.emp 1))))]) <|
  .seq (.seq (ak [aI 11 0]) <|
  .block 0 (.loop mP)) <|
  .seq (ak [aO 103 2 9,aa 104 10,(none,.op (.store 2 (.tmp 2) (.tmp 103))),aa 3 104,aI 4 0]) <|
  .ret,
  [.cell 2 (some 2),.tmp 3,.tmp 4],105⟩
theorem ue:aY Tryz.prog 17 [1,100000]=some oK:=by kernel_rfl
theorem O0 {g:ay} {a:List bt} {ls:List (List aN)} (hls:aW g a=ls) (hW:∀ l∈ls,l.length≤10000∧∀ x∈l,cW g x) (i:Nat):(iC g a i).length≤10000:=by
  unfold iC
  refine Nat.le_trans (List.length_filterMap_le _ _) ?_
  rw[hls,List.getD_eq_getElem?_getD]
  cases h:ls[i]? with
  | none=>simp
  | some l=>exact (hW l (List.mem_of_getElem? h)).1
theorem Bz (g:ay) (s:bt) (l:List dk) (st t:Int):(gI g s l st t).2.length≤l.length:=by
  have:=BO l t
  unfold gI
  cases h:gp l t with
  | nil=>simp
  | cons r rs =>
    rw[h] at this
    simp only[List.length_cons] at this
    simp only
    split
    · simp[jQ]; omega
    · simp[jQ]; omega
theorem Ki (g:ay) (s:bt) (l:List dk) (st:Int) (n:Nat):gM g s l st (n+1)=gM g s l st n ++ [(gI g s l st n).1]:=by simp[gM,List.range_succ]
theorem DV (g:ay) (s:bt) (l:List dk) (st:Int) (n:Nat):xc g s l st (n+1)=xc g s l st n ++ (gI g s l st n).2:=by simp[xc,List.range_succ]
theorem A4 {g:ay} {s:bt} {l:List dk} {st:Int} (hl:l.length≤10000):∀ n:Nat,(xc g s l st n).length≤n * 10000
  | 0=>by simp[xc]
  | n+1=>by
    have h1:=A4 (g:=g) (s:=s) (st:=st) hl n
    have h2:=Bz g s l st n
    rw[DV,List.length_append]
    omega
theorem DA (g:ay) (a:List bt) (l:List (List dk)) (n:Nat):pk g a l (n+1)=pk g a l n ++ xc g (a.getD n cK) (l.getD n []) n (g.ax.length+1):=by simp[pk,List.range_succ]
theorem GP {g:ay} {a:List bt} {l:List (List dk)} (hl:∀ i,(l.getD i []).length≤10000) (hT:g.ax.length≤24):∀ n:Nat,(pk g a l n).length≤n * 250000
  | 0=>by simp[pk]
  | n+1=>by
    have h1:=GP (a:=a) hl hT n
    have h2:=A4 (g:=g) (s:=a.getD n cK) (st:=n) (hl n) (g.ax.length+1)
    rw[DA,List.length_append]
    omega
theorem Q3 (l:List lL):((ke l).all fun e=>e.length == 5 && e.all aU)=true:=by simp[ke,List.all_map,KM,aU]
theorem ED {h:aH} {u v s t w x:V} {e:Int} (h1:bZ h u s) (h2:bZ h v t) (h3:bZ h w x):bZ h (.bf [.agg [u,v],w,gi e]) (.bf [.agg [s,t],x,gi e]):=.bf _ _ rfl fun i hi=>by
  match i,hi with
  | 0,_=>exact Dd h1 h2
  | 1,_=>exact h3
  | 2,_=>exact .val _
theorem QY {α:Type} {X Y:α} {C I:List α} : (Y :: X :: (C ++ I)).Perm ((C ++ [X]) ++ (I ++ [Y])):=by
  rw[← List.append_assoc]
  refine .trans (.cons Y ?_) (List.perm_append_singleton Y _).symm
  rw[List.append_assoc]
  exact List.perm_middle.symm
theorem Pk {α:Type} {b u a k r c d:α} {C I:List α} : (b :: u :: a :: k :: r :: c :: d :: (C ++ I)).Perm (a :: u :: c :: b :: d :: ((C ++ [r]) ++ (I ++ [k]))) :=
  (List.perm_middle (a:=a) (l₁:=[b,u])).trans (.cons a ((List.perm_middle (a:=u) (l₁:=[b])).trans (.cons u ((List.perm_middle (a:=c) (l₁:=[b,k,r])).trans (.cons c (.cons b ((List.perm_middle (a:=d) (l₁:=[k,r])).trans (.cons d (QY (Y:=k) (X:=r) (C:=C) (I:=I))))))))))
set_option maxHeartbeats 16000000 in
theorem rP (g:ay) (hg:g.Ok):cH Tryz.prog 17 [.agg (aw g)] (.bf [.agg (bu (dw g).1),.aX (ke (dw g).2.1),gi (dw g).2.2]):=by
  refine cH.of (fY g) ?_
  have hB:=(Cz g hg).pure
  have hO:=(P1 g hg).pure
  refine aC.of mixed ue ?_
  simp only[aw,encS] at hB hO
  simp (disch:=omega) only [↓wr,↓reduceIte,wq,ah,Nat.reduceEqDiff,Nat.reduceAdd,Nat.reduceLeDiff,oK,aw,encS]
  intro b2
  refine aE.pure hB (by kernel_rfl) ?_
  unfold dw
  simp (disch:=omega) only [↓wr,↓reduceIte,wq,ag,Nat.reduceEqDiff,Nat.reduceAdd,Nat.reduceLT]
  refine av.ne (fun h=>?_) (fun h=>?_)
  · simp (disch:=omega) only [↓wr,↓reduceIte,wq,ab,ae,Nat.reduceEqDiff,Nat.reduceAdd,Nat.reduceLT,Nat.reduceLeDiff,reduceCtorEq]
    intro h' _
    rw[if_neg h]
    exact ED (.emp _) (.emp _) (.emp _)
  rw[if_pos h]
  unfold rK at hO ⊢
  rw[if_pos h] at hO ⊢
  obtain ⟨hW,hA⟩:=xk hg h
  have hlen:=O0 rfl hW.item
  generalize (bV g).1=a at *
  clear hB h
  have hf:=cn hW.right
  have h300:=hW.short
  have hT:=hf.ax
  have hN:=hf.aA
  have hlk:∀ i:Nat,i < a.length→(fi g a)[i]?=some (iC g a i):=fun i hi=>by rw[fi,List.getElem?_map,List.getElem?_range hi]; rfl
  have hll:(fi g a).length=a.length:=by simp[fi]
  have hlD:∀ i:Nat,((fi g a).getD i []).length≤10000:=fun i=>by
    rw[List.getD_eq_getElem?_getD]
    rcases Nat.lt_or_ge i a.length with hi | hi
    · rw[hlk i hi]; exact hlen i
    · rw[List.getElem?_eq_none (by omega)]; simp
  generalize fi g a=L at *
  simp (disch:=omega) only [↓wr,↓reduceIte,wq,Nat.reduceEqDiff,Nat.reduceAdd,Nat.reduceLeDiff]
  refine aE.pure hO (by kernel_rfl) ?_
  simp (disch:=omega) only [↓wr,↓reduceIte,wq,Nat.reduceEqDiff,Nat.reduceAdd,Nat.reduceLT]
  intro b9 hb9
  have o0:=(bK.nil.new (n:=b2) (H:=fun _=>cU.dead) rfl 2 [[.emp 1,.emp 1]]).new (n:=b9) (by simpa [View.set] using hb9) 2 [[.emp 1,.emp 1]]
  have hb29:b9≠b2:=(dz hb9 cT).1
  have o1:=(((o0.emp (k:=1) (sz:=5)).emp (k:=1) (sz:=1)).emp (k:=1) (sz:=1))
  clear o0
  generalize (View.set (fun _=>cU.dead) b2 (.arr 2 [[.emp 1,.emp 1]])).set b9 (.arr 2 [[.emp 1,.emp 1]])=H0 at o1 ⊢
  refine ba.up a.length (fun i T H'=>∃ (ua ug uc:V) (A:Fg) (G:JR),A.map (·.2)=(im g a L i).aK∧G.map (·.2)=(im g a L i).gotos ∧
    bK H' ((ua,1,cq A) :: (ug,1,cq G) :: (uc,5,ke (pk g a L i)) :: (.sl b9 0 1 2,2,[[ua,ug]]) :: (.sl b2 0 1 2,2,[[.emp 1,.emp 1]]) :: (zI A ++ zN G))∧T 1=.aT (aw g) 0∧T 2=.ptr b2 0 0∧T 5=bR a∧T 7=vU L∧T 9=.ptr b9 0 0∧T 10=uc∧T 11=gi i)
    ⟨.emp 1,.emp 1,.emp 1,[],[],rfl,rfl,o1,rfl,rfl,rfl,rfl,rfl,rfl,rfl⟩ ?_
  clear o1 hb9
  rintro i k T H hk ⟨ua,ug,uc,A,G,hAe,hGe,ho,t1,t2,t5,t7,t9,t10,t11⟩
  simp (disch:=omega) only [↓wr,↓reduceIte,wq,ag,aj,Nat.reduceEqDiff,mP,t5,t11,bR]
  refine av.dec (fun hc=>?_) (fun hc=>?_)
  · have hs:a[i]?=some (a.getD i cK):=getD_some (by omega)
    have hl:=hlk i (by omega)
    have hlR:=hlen i
    obtain ⟨k1,k2,k3⟩:=hA.bG _ (List.mem_of_getElem? hs)
    have hE:=hA.cp _ (List.mem_of_getElem? hs)
    have hkl:=ia hf k1 k3
    have hLd:L.getD i []=iC g a i:=by rw[List.getD_eq_getElem?_getD,hl]; rfl
    have hcon:=DA g a L i
    have hcl:=GP (g:=g) (a:=a) (l:=L) hlD hT i
    have hrows:(im g a L (i+1)).aK=(im g a L i).aK ++ [gM g (a.getD i cK) (iC g a i) i (g.ax.length+1)]∧(im g a L (i+1)).gotos=(im g a L i).gotos ++ [AB g a i]:=by
      simp only[im,List.range_succ,List.map_append,List.map_cons,List.map_nil,hLd,and_self]
    rw[hLd] at hcon
    generalize iC g a i=lk at *
    generalize a.getD i cK=s at *
    simp (disch:=omega) only [↓wr,wq]
    generalize hBB:((.sl b9 0 1 2,2,[[ua,ug]]) :: (.sl b2 0 1 2,2,[[.emp 1,.emp 1]]) :: (zI A ++ zN G):List ep)=BB at ho
    refine ba.up (g.ax.length+1) (fun j T H'=>∃ (ur uc:V),bK H' ((ur,2,(gM g s lk i j).map bC) :: (uc,5,ke (pk g a L i ++ xc g s lk i j)) :: (ua,1,cq A) :: (ug,1,cq G) :: BB)∧T 1=.aT (aw g) 0∧T 2=.ptr b2 0 0∧T 5=bR a∧T 7=vU L∧T 9=.ptr b9 0 0∧T 10=uc∧T 11=gi i∧T 12=ur∧T 13=gi j)
      ⟨.emp 1,uc,by rw[show xc g s lk i 0=[] from rfl,List.append_nil]; exact (ho.perm CR.symm).emp,t1,t2,t5,t7,t9,t10,t11,rfl,rfl⟩ ?_
    clear ho t1 t2 t5 t7 t9 t10 t11
    clear uc
    rintro j k2 T2 H2 hk2 ⟨ur,uc,ho,t1,t2,t5,t7,t9,t10,t11,t12,t13⟩
    simp (disch:=omega) only [↓wr,↓reduceIte,wq,ag,aj,Nat.reduceEqDiff,Nat.reduceAdd,Nat.reduceLT,ml,t1,t13,aw]
    refine av.dec (fun hcj=>?_) (fun hcj=>?_)
    · have hce:=(LC g hg s ⟨by unfold aL; omega,by unfold aL; omega⟩ lk hlR i j).pure
      have hcc:=Bz g s lk i j
      have hcf:=A4 (g:=g) (s:=s) (st:=i) hlR j
      have r1:=Ki g s lk i j
      have r2:=DV g s lk i j
      have hrl:(gM g s lk i j).length=j:=by simp[gM]
      generalize gI g s lk i j=ce at *
      obtain ⟨c,cf⟩:=ce
      simp only[aw,encS,eo,bC] at hce
      simp (disch:=omega) only [↓wr,↓reduceIte,wq,Nat.reduceEqDiff,Nat.reduceAdd,Nat.reduceLT,Nat.reduceLeDiff,t1,t5,t7,t11,t13,aw,encS,bR,vU,List.getElem?_map,hs,hl,eo]
      refine aE.pure hce (by kernel_rfl) ?_
      simp (disch:=omega) only [↓wr,↓reduceIte,wq,ab,af,Nat.reduceEqDiff,Nat.reduceAdd,Nat.reduceLT,Nat.reduceLeDiff,t12]
      intro b14 hb14
      intro q hq
      obtain ⟨q1,q2⟩:=dz hq cT
      have q3:=(dz q2 cT).2
      simp (disch:=omega) only [↓wr,↓reduceIte,wq,Nat.reduceEqDiff,bp]
      have o1:=(ho.fresh hb14 (o:=.arr 2 [[gi c.kind,gi c.n]])).fresh (n:=q) (o:=.arr 2 [[gi c.kind,gi c.n]]) (by simp[View.set,q1,q3])
      rw[set_set]
      refine bQ o1 (by simp[aU]) (by unfold aJ; rw[List.length_map,hrl]; simp only[List.length_cons,List.length_nil]; omega) (by unfold aJ; rw[List.length_map,hrl]; simp only[List.length_cons,List.length_nil]; omega) ?_
      intro ur2 H5 o5 _
      simp (disch:=omega) only [↓wr,↓reduceIte,wq,Nat.reduceEqDiff,t10]
      simp only at hcc
      refine bQ (o5.perm (.swap _ _ _)) (Q3 cf) (by unfold aJ; rw[kE,kE,List.length_append]; omega) (by unfold aJ; rw[kE,kE,List.length_append]; omega) ?_
      intro uc2 H6 o6 _
      simp (disch:=omega) only [↓wr,↓reduceIte,wq,ag,Nat.reduceEqDiff,reduceCtorEq,t2,t9,t11,t13]
      refine aV hk2 (by omega) ⟨ur2,uc2,?_,t1,t2,t5,t7,t9,rfl,t11,rfl,rfl⟩
      rw[r1,r2]
      have o7:=o6.perm (.swap _ _ _)
      rw[show (gM g s lk i j ++ [c]).map bC=(gM g s lk i j).map bC ++ [[gi c.kind,gi c.n]] by simp[bC],← List.append_assoc,ke,List.map_append]
      exact o7
    · have hje:j=g.ax.length+1:=by omega
      subst hje
      have hrl:(gM g s lk i (g.ax.length+1)).length=g.ax.length+1:=by simp[gM]
      rw[← hcon] at ho
      simp (disch:=omega) only [↓wr,↓reduceIte,wq,Nat.reduceEqDiff,reduceCtorEq,t2,t9,t11]
      refine ba.up g.aA.length (fun j T H'=>∃ (uk:V),bK H' ((uk,1,bA ((List.range j).map fun (k:Nat)=>rM a i k)) :: (ur,2,(gM g s lk i (g.ax.length+1)).map bC) :: (uc,5,ke (pk g a L (i+1))) :: (ua,1,cq A) :: (ug,1,cq G) :: BB)∧T 1=.aT (aw g) 0∧T 2=.ptr b2 0 0∧T 5=bR a∧T 7=vU L∧T 9=.ptr b9 0 0∧T 10=uc∧T 11=gi i∧T 12=ur∧T 16=uk∧T 17=gi j)
        ⟨.emp 1,ho.emp,t1,t2,t5,t7,t9,t10,t11,t12,rfl,rfl⟩ ?_
      clear ho t1 t2 t5 t7 t9 t10 t11 t12 t13
      rintro j k3 T4 H4 hk3 ⟨uk,ho,t1,t2,t5,t7,t9,t10,t11,t12,t16,t17⟩
      simp (disch:=omega) only [↓wr,↓reduceIte,wq,ag,aj,Nat.reduceEqDiff,Nat.reduceAdd,Nat.reduceLT,Int.reduceNeg,mH,t1,t17,aw,encS]
      refine av.dec (fun hcj2=>?_) (fun hcj2=>?_)
      · have hwk:=DJ a (by unfold aL; omega) hW.cp i [-1 - (j:Int)] (by unfold aL; simp)
        have hrs:(List.range (j+1)).map (fun (k:Nat)=>rM a i k)=(List.range j).map (fun (k:Nat)=>rM a i k) ++ [rM a i j]:=by rw[List.range_succ,List.map_append]; rfl
        have hgo:rM a i j=if (ga a i [-1 - (j:Int)]).2=true then (ga a i [-1 - (j:Int)]).1 else -1:=rfl
        simp (disch:=omega) only [↓wr,↓reduceIte,wq,ag,af,Nat.reduceEqDiff,Nat.reduceLT,Int.reduceNeg,t5,t11,t17]
        intro q hq
        refine aE.A9 hwk (by kernel_rfl) (.bf _ fun j hj=>by
          match j,hj with
          | 0,_=>exact ⟨_,rfl⟩
          | 1,_=>exact ⟨_,rfl⟩) ⟨.tree (pD a),.tree (.val _),Co (l:=[-1 - (j:Int)]) (by simp[View.set]) rfl,trivial⟩ ?_
        have o1:=ho.fresh (o:=.arr 1 [[gi (-1 - (j:Int))]]) hq
        generalize H4.set q (.arr 1 [[gi (-1 - (j:Int))]])=H5 at o1 ⊢
        generalize ga a i [-1 - (j:Int)]=wk at hgo ⊢
        obtain ⟨to,okb⟩:=wk
        simp only at hgo
        simp (disch:=omega) only [↓wr,↓reduceIte,wq,Nat.reduceEqDiff,Nat.reduceAdd,Nat.reduceLT,Int.reduceNeg]
        cases okb with
        | true =>
          rw[if_pos rfl] at hgo
          simp (disch:=omega) only [↓wr,↓reduceIte,wq,af,Nat.reduceEqDiff,Nat.reduceLT,Int.reduceNeg,t16]
          intro q2 hq2
          simp (disch:=omega) only [↓wr,↓reduceIte,wq,Nat.reduceEqDiff,Int.reduceNeg,bp]
          refine bQ (o1.fresh hq2) (by simp[aU]) (by unfold aJ; simp; omega) (by unfold aJ; simp; omega) ?_
          intro uk2 H6 o6 _
          simp (disch:=omega) only [↓wr,↓reduceIte,wq,ag,Nat.reduceEqDiff,Int.reduceNeg,reduceCtorEq,t2,t9,t11,t17]
          refine aV hk3 (by omega) ⟨uk2,?_,t1,t2,t5,t7,t9,t10,t11,t12,rfl,rfl⟩
          rw[hrs,hgo,bA,List.map_append]
          exact o6
        | false =>
          rw[if_neg (by simp)] at hgo
          simp (disch:=omega) only [↓wr,↓reduceIte,wq,af,Nat.reduceEqDiff,Nat.reduceLT,Int.reduceNeg,t16]
          intro q2 hq2
          simp (disch:=omega) only [↓wr,↓reduceIte,wq,Nat.reduceEqDiff,Int.reduceNeg,bp]
          refine bQ (o1.fresh hq2) (by simp[aU]) (by unfold aJ; simp; omega) (by unfold aJ; simp; omega) ?_
          intro uk2 H6 o6 _
          simp (disch:=omega) only [↓wr,↓reduceIte,wq,ag,Nat.reduceEqDiff,Int.reduceNeg,reduceCtorEq,t2,t9,t11,t17]
          refine aV hk3 (by omega) ⟨uk2,?_,t1,t2,t5,t7,t9,t10,t11,t12,rfl,rfl⟩
          rw[hrs,hgo,bA,List.map_append]
          exact o6
      · have hje2:j=g.aA.length:=by omega
        subst hje2
        have ho:bK H4 ((uk,1,bA (AB g a i)) :: (ur,2,(gM g s lk i (g.ax.length+1)).map bC) :: (uc,5,ke (pk g a L (i+1))) :: (ua,1,cq A) :: (ug,1,cq G) :: BB):=ho
        have lA:=congrArg List.length hAe
        have lG:=congrArg List.length hGe
        simp only[im,List.length_map,List.length_range] at lA lG
        subst hBB
        have h9:=ho.is 5 rfl (by simp)
        have ca:=(ho.own 3 rfl).cells
        have cr:=(ho.own 1 rfl).cells
        have kr:=(ho.own 1 rfl).fA
        have ck:=(ho.own 0 rfl).cells
        have kk:=(ho.own 0 rfl).fA
        simp (disch:=omega) only [↓wr,↓reduceIte,wq,ab,af,Nat.reduceEqDiff,Nat.reduceAdd,Nat.reduceLT,Nat.reduceLeDiff,reduceCtorEq,t2,t9,t10,t11,t12,h9,cr,kr]
        intro q hq
        simp (disch:=omega) only [↓wr,↓reduceIte,wq,Nat.reduceEqDiff,bp]
        have o4:=(ho.fresh (o:=.arr 1 [[ur]]) hq).at 3 (by simp)
        refine bQ o4 (by simp[kr]) (by unfold aJ; simp[cq]; omega) (by unfold aJ; simp[cq]; omega) ?_
        intro ua2 H5 o5 _
        simp only[List.eraseIdx_cons_succ,List.eraseIdx_cons_zero] at o5
        have h95:=o5.is 5 rfl (by simp)
        simp (disch:=omega) only [↓wr,↓reduceIte,wq,af,Nat.reduceEqDiff,Nat.reduceAdd,Nat.reduceLT,t9,t16,h95,ck,kk]
        intro q2 hq2
        simp (disch:=omega) only [↓wr,↓reduceIte,wq,Nat.reduceEqDiff,bp]
        have o6:=(o5.fresh (o:=.arr 1 [[uk]]) hq2).at 4 (by simp)
        refine bQ o6 (by simp[kk]) (by unfold aJ; simp[cq]; omega) (by unfold aJ; simp[cq]; omega) ?_
        intro ug2 H6 o7 _
        simp only[List.eraseIdx_cons_succ,List.eraseIdx_cons_zero] at o7
        have h97:=o7.is 5 rfl (by simp)
        have ca2:=(o7.own 1 rfl).cells
        have ka2:=(o7.own 1 rfl).fA
        have cg2:=(o7.own 0 rfl).cells
        have kg2:=(o7.own 0 rfl).fA
        simp (disch:=omega) only [↓wr,↓reduceIte,wq,ag,ab,Nat.reduceEqDiff,Nat.reduceAdd,Nat.reduceLT,Nat.reduceLeDiff,reduceCtorEq,t2,t9,t10,t11,h97,ca2,ka2,cg2,kg2]
        refine ⟨Dr (ho.own 3 rfl) ((ho.at 5 (by simp)).off rfl _ (List.mem_of_getElem? (i:=3) rfl)),?_⟩
        rw[set_set]
        refine aV hk (by omega) ⟨ua2,ug2,uc,A ++ [(ur,gM g s lk i (g.ax.length+1))],G ++ [(uk,AB g a i)],?_,?_,?_,t1,t2,t5,t7,t9,t10,rfl⟩
        · rw[List.map_append,hAe,hrows.1]; rfl
        · rw[List.map_append,hGe,hrows.2]; rfl
        · have o8:=(o7.at 5 (by simp)).put (es':=[[ua2,ug2]]) rfl rfl
          simp only[List.eraseIdx_cons_succ,List.eraseIdx_cons_zero] at o8
          simp only[cq,zI,zN,List.map_append,List.map_cons,List.map_nil]
          exact o8.perm Pk
  · have hie:i=a.length:=by omega
    subst hie
    have h9:=ho.is 3 rfl (by simp)
    have h2:=ho.is 4 rfl (by simp)
    have ca:=(ho.own 0 rfl).cells
    have ka:=(ho.own 0 rfl).fA
    have cg:=(ho.own 1 rfl).cells
    have kg:=(ho.own 1 rfl).fA
    simp (disch:=omega) only [↓wr,↓reduceIte,wq,ab,Nat.reduceEqDiff,Nat.reduceAdd,Nat.reduceLT,Nat.reduceLeDiff,reduceCtorEq,t2,t9,t10,h9,h2,ka,kg]
    intro h' hv
    have o9:=(ho.at 4 (by simp)).put (es':=[[ua,ug]]) rfl rfl
    simp only[List.eraseIdx_cons_succ,List.eraseIdx_cons_zero] at o9
    rw[← hv] at o9
    unfold bu
    rw[← hAe,← hGe]
    refine ED (D1 (o9.own 1 rfl) fun x hx=>o9.1 (x.1,2,x.2.map bC) ?_) (KR.R6 ⟨G,rfl,o9.own 2 rfl,fun x hx=>o9.1 (x.1,1,bA x.2) ?_⟩) (G4 (o9.own 3 rfl))
    · simp only[List.mem_cons,List.mem_append]
      exact .inr (.inr (.inr (.inr (.inr (.inl (List.mem_map.2 ⟨x,hx,rfl⟩))))))
    · simp only[List.mem_cons,List.mem_append]
      exact .inr (.inr (.inr (.inr (.inr (.inr (List.mem_map.2 ⟨x,hx,rfl⟩))))))
end Gv
