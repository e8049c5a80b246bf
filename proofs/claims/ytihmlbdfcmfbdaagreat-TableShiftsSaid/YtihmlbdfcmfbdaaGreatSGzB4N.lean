/-
  Part 14 of the proof: what the machine does and what the functions answer.
  Conditions: those that each lemma names.
-/
import Derived.Test.YtihmlbdfcmfbdaaGreatSGzB4M
set_option linter.unusedSimpArgs false
set_option linter.unusedVariables false
set_option maxRecDepth 100000
set_option maxHeartbeats 20000000
namespace Gv
open Go Go.Proofs
def mA:SC :=
 ae [ab [aV 35 .lss 34 33],bY 35 (.exit 0),.block 1 (ae [ab [aQ 36 2 32 34,bg 37 2 36,((some 11),.op (.alloc [(.val (.int .i64 0)),(.val (.int .i64 0))])),bU 2 11 37],ab [ao 38 0 11,aj 39 38,aH 40 .lss 39 0],.cond (.tmp 40) (ab [aa 41 9,ao 42 0 11,aj 43 42,((some 44),.op (.arith .sub (.val (.val (.int .i64 (-1)))) (.tmp 43))),ao 45 1 11,aj 46 45,aQ 47 1 41 44,bU 1 47 46]) (ab [aa 48 8,ao 49 0 11,aj 50 49,ao 51 1 11,aj 52 51,((some 53),.op (.build [(.val (.int .i64 0)),(.val (.int .i64 0))] [(0,1,(.val (.val (.int .i64 1)))),(1,1,(.tmp 52))])),aQ 54 2 48 50,bU 2 54 53])]),ab [aH 55 .add 34 1,aa 34 55]]
def my:SC :=
 ae [ab [aV 75 .lss 74 73],bY 75 (.exit 2),.block 3 (ae [ab [aa 76 74,aQ 77 2 72 74,bg 78 2 77,((some 14),.op (.alloc [(.val (.int .i64 0)),(.val (.int .i64 0))])),aa 13 76,bU 2 14 78],ab [aa 79 12,aa 80 13,aa 81 0,aa 82 1,aa 83 13,aa 84 3,aa 85 13,((some 86),.wW (.val (.fn 38 [] [])) [(.tmp 84),(.tmp 85)]),bg 87 2 14,bz 88 129 [81,82,83,86,87],aQ 89 2 79 80,bU 2 89 88]]),ab [aH 90 .add 74 1,aa 74 90]]
def nZ:SF:=⟨ae [ab [cI 6 2],ab [aa 15 0,ep 16 15,ao 17 0 16,ao 18 0 17,aj 19 18,aN 20 19,aH 21 .add 20 1,((some 22),.op (.make 2 16 [(.val (.int .i64 0)),(.val (.int .i64 0))] (.tmp 21) (.tmp 21))),aa 8 22],ab [((some 23),.op (.bV 1 1 [(.val (.int .i64 0))] [(0,(.val (.val (.int .i64 (-1)))))])),aa 24 0,ep 25 24,ao 26 0 25,ao 27 1 26,aj 28 27,aN 29 28,bz 30 127 [23,29],aa 9 30],ae [ab [ao 31 1 6,aj 32 31,aN 33 32,aS 34 0],b6 0 mA],ae [ab [ao 56 0 6,aj 57 56,((some 58),.op (.build [(.val (.int .i64 0)),(.val (.int .i64 0))] [(0,1,(.val (.val (.int .i64 (-1))))),(1,1,(.val (.val (.int .i64 1))))])),bz 59 128 [57,58]],bf 59 (ab [aa 60 8,aa 61 0,ep 62 61,ao 63 0 62,ao 64 0 63,aj 65 64,aN 66 65,((some 67),.op (.build [(.val (.int .i64 0)),(.val (.int .i64 0))] [(0,1,(.val (.val (.int .i64 3))))])),aQ 68 2 60 66,bU 2 68 67])],ab [aa 69 8,aN 70 69,((some 71),.op (.make 2 16 [(.val (.int .i64 0)),(.val (.int .i64 0))] (.tmp 70) (.tmp 70))),aa 12 71],ae [ab [aa 72 8,aN 73 72,aS 74 0],b6 2 my],.nT [(104,97)] [⟨none,[aa 91 0,aa 92 0,aa 93 0,ep 94 93,ao 95 4 94,ao 96 0 95,aj 97 96,aa 98 12,((some 99),.op (.bV 1 1 [(.emp 1)] [(0,(.tmp 98))])),gY 100 1 24 97 99,aa 101 0,ep 102 101,ao 103 4 102,ao 104 1 103,aj 105 104,aa 106 9,((some 107),.op (.bV 1 1 [(.emp 1)] [(0,(.tmp 106))])),gY 108 1 24 105 107,ep 109 91,ao 110 4 109,ao 111 0 110,bU 1 111 100,ep 112 92,ao 113 4 112,ao 114 1 113,bU 1 114 108]⟩]],
 [],115⟩
theorem tF:aR Tryz.prog 85 [6,100000,200086]=some nZ:=by kernel_rfl
theorem TB (l:List bX):(fc l).length=l.length:=by simp[fc]
abbrev e9 (l:List Cell):List (List V):=l.map fun c=>[gi c.kind,gi c.n]
def VY (g:ag) (a:List aI) (b i:Nat) (s:aI) (l:List cd) (C:List kd) (ua ug:V) (nk m n:Nat) (BB:List cw) (j:Nat) (T:Env) (H:View):Prop:=∃ uc,ba H ((.sl n 0 (g.af.length+1) 2,2,e9 (fo g s l i j ++ List.replicate (g.af.length+1 - j) ⟨0,0⟩)) :: (.sl m 0 (g.af.length+1) 2,2,e9 ((List.range (g.af.length+1)).map fun (k:Nat)=>eL g s k)) :: (uc,5,kz (C ++ tc g s l i j)) ::
 (.sl b 0 1 7,7,[ed g ua ug uc]) :: (.sl nk 0 g.ak.length 1,1,bE (mF g a i)) :: BB)∧T 0=.ptr b 0 0∧T 1=gi i∧T 3=.aE (kB l)∧T 9=.sl nk 0 g.ak.length 1∧T 12=.sl n 0 (g.af.length+1) 2∧T 72=.sl m 0 (g.af.length+1) 2∧T 73=gi ((g.af.length+1:Nat))∧T 74=gi j
theorem O9 {α:Type} {n m u b:α} {L:List α} : (n :: m :: u :: b :: L).Perm (u :: b :: n :: m :: L):=(List.perm_append_comm (l₁:=[n,m]) (l₂:=[u,b])).append_right L
theorem Ur {α:Type} {b g a n u k:α} {C I:List α} : (b :: g :: a :: n :: u :: k :: (C ++ I)).Perm (u :: b :: a :: g :: ((C ++ [n]) ++ (I ++ [k]))) :=
 (XT (a:=u) (l₁:=[b,g,a,n])).trans (.cons u (.cons b ((List.Perm.swap _ _ _).trans (.cons a (.cons g ((List.Perm.swap _ _ _).trans Vp))))))
theorem Tv {α:Type} {k u b:α} {L:List α} : (k :: u :: b :: L).Perm (u :: b :: k :: L):=(XT (l₁:=[u,b])).symm
theorem xS (l:List Cell) (k:Nat) (c:Cell):e9 (l.set k c)=(e9 l).set k [gi c.kind,gi c.n]:=YL
theorem NN (g:ag) (hg:g.Ok) (b2:g.Small) (hr:bG g=true) (a:List aI) (hO:ni g a) (i:Nat) (hi:i < a.length) (S:((a.getD i aM).aG.map bX.sym).Nodup) (a1:∀ e∈(a.getD i aM).aG,gu g e.sym=true) (b3:aL (a.getD i aM).bc) (l:List cd) (hl:l.length≤10000)
  (X Y B:V) (A:GV) (G:L3) (C:List kd) (c9:A.length≤300) (da:G.length≤300) (hC:C.length≤75000000) (b:Nat) (L:List cw) (H:View)
  (p:ba H ((B,5,kz C) :: (.sl b 0 1 7,7,[ed g X Y B]) :: (X,1,bm A) :: (Y,1,bm G) :: (xt A ++ wM G ++ L))) :
  aw Tryz.prog 85 [.ptr b 0 0,gi i,.agg (fZ (a.getD i aM)),.aE (kB l)] H fun _ H'=>∃ a6 a7 a8 ur uk,
   ba H' ((a8,5,kz (C ++ tc g (a.getD i aM) l i (g.af.length+1))) :: (.sl b 0 1 7,7,[ed g a6 a7 a8]) :: (a6,1,bm (A ++ [(ur,fo g (a.getD i aM) l i (g.af.length+1))])) :: (a7,1,bm (G ++ [(uk,mF g a i)])) ::
    (xt (A ++ [(ur,fo g (a.getD i aM) l i (g.af.length+1))]) ++ wM (G ++ [(uk,mF g a i)]) ++ L)):=by
 have hf:=bJ hr
 have hT:=hf.af; have hN:=hf.ak; have db:=hf.qU
 have Z:a[i]?=some (a.getD i aM):=getD_some hi
 have dj:=hO.aG _ (Xi Z)
 have b4:=hO.to _ (Xi Z)
 clear Z
 have D:=VM (g:=g) hO hi S
 have bb:∀ e∈(a.getD i aM).aG,e.sym < g.af.length:=fun e he=>by
  have:=a1 e he
  unfold gu at this
  split at this
  ·simpa using this
  ·omega
 have h:=RW S bb
 have O:=p.is 1 rfl (by simp)
 refine aw.of mixed tF ?_
 generalize (a.getD i aM)=s at *
 generalize b5:((X,1,bm A) :: (Y,1,bm G) :: (xt A ++ wM G ++ L):List cw)=BB at p
 simp (disch:=omega)only[↓wr,seval,wq,nZ,fZ,O,ed]
 refine ⟨⟨by omega,by unfold aB; omega,by unfold aB; omega⟩,fun hz=>absurd hz (by omega),fun _ m hm=>?_⟩
 rw[show ((g.af.length:Int)+1).toNat=g.af.length+1 by omega]
 have b7:¬ b=m:=by rintro rfl; rw[O] at hm; simp at hm
 intro q hq
 obtain ⟨P,hq⟩:=cO hq cJ
 have b8:¬ b=q:=by rintro rfl; rw[O] at hq; simp at hq
 have f:=(p.new hm 2 (e9 (List.replicate (g.af.length+1) ⟨0,0⟩))).fresh (n:=q) (o:=.arr 1 [[gi (-1)]]) (by simp[View.set,P,hq])
 rw[show e9 (List.replicate (g.af.length+1) ⟨0,0⟩)=List.replicate (g.af.length+1) [gi 0,gi 0] by simp[e9]] at f
 simp (disch:=omega)only[↓wr,seval,wq,b8,b7]
 have E:((H.set m (.arr 2 (List.replicate (g.af.length+1) [gi 0,gi 0]))).set q (.arr 1 [[gi (-1)]])) q=.arr 1 [[gi (-1)]]:=by simp[View.set]
 generalize ((H.set m (.arr 2 (List.replicate (g.af.length+1) [gi 0,gi 0]))).set q (.arr 1 [[gi (-1)]]))=H2 at f E ⊢
 refine ay.dZ ((M6 g.ak.length (by omega) q H2 E).mono ?_)
 rintro uk H3 ⟨bd,bl⟩
 have N:=f.HW bd bl
 rw[show List.replicate (g.af.length+1) [gi 0,gi 0]=e9 (s.aG.take 0 |>.foldl fe (List.replicate (g.af.length+1) ⟨0,0⟩)) by simp[e9],show List.replicate g.ak.length (-1)=(s.aG.take 0).foldl iB (List.replicate g.ak.length (-1)) from rfl] at N
 clear O p f bd bl hm hq E
 generalize bn:List.replicate (g.af.length+1) (⟨0,0⟩:Cell)=z at N
 have bq:z.length=g.af.length+1:=by rw[← bn]; simp
 generalize b9:List.replicate g.ak.length (-1:Int)=zg at N D
 have F:zg.length=g.ak.length:=by rw[← b9]; simp
 obtain ⟨nk,br,_⟩:=(N.own 0 rfl).sl (by simp[bE,F]; omega)
 rw[show (bE ((s.aG.take 0).foldl iB zg)).length=g.ak.length by simp[bE,F]] at br
 rw[show (e9 ((s.aG.take 0).foldl fe z)).length=g.af.length+1 by simp[bq]] at N
 subst br
 simp (disch:=omega)only[↓wr,seval,wq,TB]
 refine aU.up s.aG.length (fun j T H'=>ba H' ((.sl nk 0 g.ak.length 1,1,bE ((s.aG.take j).foldl iB zg)) :: (.sl m 0 (g.af.length+1) 2,2,e9 ((s.aG.take j).foldl fe z)) :: (B,5,kz C) :: (.sl b 0 1 7,7,[ed g X Y B]) :: BB) ∧
  T 0=.ptr b 0 0∧T 1=gi i∧T 3=.aE (kB l)∧T 6=.aJ (fZ s) 0∧T 8=.sl m 0 (g.af.length+1) 2∧T 9=.sl nk 0 g.ak.length 1∧T 32=.aE (fc s.aG)∧T 33=gi s.aG.length∧T 34=gi j) ⟨N,rfl,rfl,rfl,rfl,rfl,rfl,rfl,rfl,rfl⟩ ?_
 clear N
 rintro j k T H4 hk ⟨p,t0,t1,t3,t6,t8,t9,t32,t33,t34⟩
 simp (disch:=omega)only[↓wr,seval,wq,mA,t0,t1,t3,t6,t8,t9,t32,t33,t34]
 have I:∀ j:Nat,((s.aG.take j).foldl iB zg).length=g.ak.length:=fun j=>by rw[w9]; exact F
 have t:∀ j:Nat,((s.aG.take j).foldl fe z).length=g.af.length+1:=fun j=>by rw[pn]; exact bq
 have hK:=p.is 0 rfl (by simp[bE,I]; omega)
 have U:=p.is 1 rfl (by simp[t])
 apply ah.dec<;>intro hc
 ·have hy:s.aG[j]?=some (s.aG[j]'(by omega)):=Xc (by omega)
  have Q:=Xm (show j < s.aG.length by omega)
  have an:s.aG.take (j+1)=s.aG.take j ++ [s.aG[j]'(by omega)]:=by rw[XH,hy]; rfl
  generalize s.aG[j]'(by omega)=y at hy Q an
  have u:=a1 y Q; have dm:=b4 y Q
  have J:(s.aG.take (j+1)).foldl iB zg=iB ((s.aG.take j).foldl iB zg) y:=by rw[an,XZ]; rfl
  have K:(s.aG.take (j+1)).foldl fe z=fe ((s.aG.take j).foldl fe z) y:=by rw[an,XZ]; rfl
  have l1:=I j; have l2:=t j
  generalize (s.aG.take j).foldl iB zg=w at *
  generalize (s.aG.take j).foldl fe z=r at *
  rw[iB] at J
  rw[fe] at K
  have ca : -1000≤y.sym∧y.sym≤1000:=by
   unfold gu at u
   split at u <;> simp at u <;> omega
  simp (disch:=omega)only[↓wr,seval,wq,t0,t1,t3,t6,t8,t9,t32,t33,t34,fc,Xf,hy,Xk,jq]
  intro q hq
  have bs:¬ nk=q:=by rintro rfl; rw[hK] at hq; simp at hq
  have P:¬ m=q:=by rintro rfl; rw[U] at hq; simp at hq
  have W:=p.fresh hq (o:=.arr 2 [[gi y.sym,gi y.to]])
  apply ah.dec<;>intro M
  ·rw[Xg M] at J K
   have cc:(-1 - y.sym).toNat < g.ak.length:=by
    unfold gu at u
    rw[Xd (by omega)] at u
    simp at u; omega
   have x:(bE w).getD (-1 - y.sym).toNat []=[gi (w.getD (-1 - y.sym).toNat 0)]:=by rw[bE,Xb,Xf,getD_some (d:=0) (show (-1 - y.sym).toNat < w.length by omega)]; rfl
   simp (disch:=omega)only[↓wr,seval,wq,t0,t1,t3,t6,t8,t9,t32,t33,t34,bs,P,hK,U,x]
   refine ⟨by omega,by omega,aF hk (by omega) ⟨?_,t0,t1,t3,t6,t8,t9,t32,t33,rfl⟩⟩
   have f:=W.put (es':=bE (w.set (-1 - y.sym).toNat y.to)) (by simp[bE]) (by simp[bE,l1])
   rw[set_set,J,K]
   rw[show bE (w.set (-1 - y.sym).toNat y.to)=(bE w).set (-1 - y.sym).toNat [gi y.to] from YL] at f ⊢
   exact f
  ·rw[Xd M] at J K
   have cc:=bb y Q
   have x:(e9 r).getD y.sym.toNat []=[gi (r.getD y.sym.toNat ⟨0,0⟩).kind,gi (r.getD y.sym.toNat ⟨0,0⟩).n]:=by rw[Xb,Xf,getD_some (d:=⟨0,0⟩) (show y.sym.toNat < r.length by omega)]; rfl
   simp (disch:=omega)only[↓wr,seval,wq,t0,t1,t3,t6,t8,t9,t32,t33,t34,bs,P,hK,U,x]
   refine ⟨by omega,by omega,aF hk (by omega) ⟨?_,t0,t1,t3,t6,t8,t9,t32,t33,rfl⟩⟩
   have f:=((W.perm (.swap _ _ _)).put (es':=e9 (r.set y.sym.toNat ⟨1,y.to⟩)) (by simp) (by simp[l2])).perm (.swap _ _ _)
   rw[set_set,J,K]
   rw[show e9 (r.set y.sym.toNat ⟨1,y.to⟩)=(e9 r).set y.sym.toNat [gi 1,gi y.to] from YL] at f ⊢
   exact f
 ·rw[Xv (by omega),D] at p
  have l2:=t s.aG.length
  rw[List.take_length] at l2
  rw[Xv (by omega)] at U
  simp (disch:=omega)only[↓wr,seval,wq,t0,t1,t3,t6,t8,t9,fZ]
  refine ay.pure (GL s.bc b3 ⟨-1,1⟩) ?_
  have O:=p.is 3 rfl (by simp)
  simp (disch:=omega)only[↓wr,seval,wq]
  have e0:e9 (fo g s l i 0 ++ List.replicate (g.af.length+1 - 0) ⟨0,0⟩)=List.replicate (g.af.length+1) [gi 0,gi 0]:=by simp[fo,e9]
  have e1:tc g s l i 0=[]:=rfl
  unfold AD at h
  rw[bn] at h
  have x:(e9 (s.aG.foldl fe z)).getD g.af.length []=[gi ((s.aG.foldl fe z).getD g.af.length ⟨0,0⟩).kind,gi ((s.aG.foldl fe z).getD g.af.length ⟨0,0⟩).n]:=by rw[Xb,Xf,getD_some (d:=⟨0,0⟩) (show g.af.length < (s.aG.foldl fe z).length by omega)]; rfl
  apply ah.dec<;>intro hm
  focus
   rw[Xg hm] at h
   simp (disch:=omega)only[↓wr,seval,wq,t0,t8,O,ed,U,x]
   refine ⟨by omega,by omega,?_⟩
   have W:=((p.perm (.swap _ _ _)).put (es':=e9 ((s.aG.foldl fe z).set g.af.length ⟨3,0⟩)) (by simp) (by simp[l2]))
   rw[xS] at W
   refine ⟨⟨by omega,by unfold aB; omega,by unfold aB; omega⟩,fun n S=>?_⟩
   have f:=W.new (n:=n) (by simpa [View.set] using S) 2 (List.replicate (g.af.length+1) [gi 0,gi 0])
   rw[Ym] at f
   refine aU.up (g.af.length+1) (VY g a b i s l C X Y nk m n BB) ⟨B,?_,t0,t1,t3,t9,rfl,rfl,rfl,rfl⟩ ?_
   ·rw[e0,e1,Yz,← h,xS]
    exact f.perm (.cons _ (.cons _ Tv))
   clear W f S
  rotate_left
  focus
   rw[Xd hm] at h
   simp (disch:=omega)only[↓wr,seval,wq,t0,t8]
   refine ⟨⟨by omega,by unfold aB; omega,by unfold aB; omega⟩,fun n S=>?_⟩
   have f:=(p.perm (.swap _ _ _)).new S 2 (List.replicate (g.af.length+1) [gi 0,gi 0])
   rw[Ym] at f
   refine aU.up (g.af.length+1) (VY g a b i s l C X Y nk m n BB) ⟨B,?_,t0,t1,t3,t9,rfl,rfl,rfl,rfl⟩ ?_
   ·rw[e0,e1,Yz,← h]
    exact f.perm (.cons _ (.cons _ Tv))
   clear f S
  all_goals (
   clear p t0 t1 t3 t6 t8 t9 t32 t33 t34 O U I t hK x l2 h D e0 e1 B
   rintro j k T H5 hk ⟨B,p,t0,t1,t3,t9,t12,t72,t73,t74⟩
   simp (disch:=omega)only[↓wr,seval,wq,my,t0,t1,t3,t9,t12,t72,t73,t74]
   apply ah.dec<;>intro hc
   ·have U:=p.is 1 rfl (by simp)
    have cg:(e9 ((List.range (g.af.length+1)).map fun (k:Nat)=>eL g s k)).getD j []=[gi (eL g s j).kind,gi (eL g s j).n]:=by
     rw[Xb,Xf,Xf,Yu (by omega)]; rfl
    have ch:=PW g s l i j
    have aq:=Me g s l i j
    have ar:=FB g s l i j
    have ds:=Bz (g:=g) (s:=s) (st:=i) hl j
    have R:(fo g s l i j).length=j:=by simp[fo]
    simp (disch:=omega)only[↓wr,seval,wq,t0,t1,t3,t9,t12,t72,t73,t74,U,cg]
    have dv:=Cx l (j:Int)
    refine ⟨by omega,by simp; omega,fun q hq=>?_⟩
    refine ay.pure (Mi l hl j).pure ?_
    rw[set_set]
    have W:=(p.fresh hq (o:=.arr 2 [[gi (eL g s j).kind,gi (eL g s j).n]])).perm O9
    simp (disch:=omega)only[↓wr,seval,wq]
    refine ay.dZ ((Si g hg b2 X Y B _ b _ _ W (by rw[XV]; omega) i j (fv l j) (by omega) (eL g s j)).mono ?_)
    rintro v H7 ⟨rfl,cj,f⟩
    rw[← ch] at f ⊢
    generalize fH g s l i j=ce at f aq ar ⊢
    obtain ⟨c,cf⟩:=ce
    simp only at f aq ar ⊢
    have ck:=f.is 2 rfl (by simp; omega)
    have bx:List.replicate (g.af.length+1 - j) (⟨0,0⟩:Cell)=⟨0,0⟩ :: List.replicate (g.af.length+1 - (j+1)) ⟨0,0⟩:=by rw[← List.replicate_succ]; congr 1; omega
    have cu:(fo g s l i j ++ List.replicate (g.af.length+1 - j) (⟨0,0⟩:Cell)).set j c=fo g s l i (j+1) ++ List.replicate (g.af.length+1 - (j+1)) ⟨0,0⟩:=by
     rw[aq,bx,List.set_append_right _ _ (by omega),R,Nat.sub_self,List.set_cons_zero,XO]; rfl
    have cv:(e9 (fo g s l i j ++ List.replicate (g.af.length+1 - j) ⟨0,0⟩)).getD j []=[gi 0,gi 0]:=by
     rw[bx,Xb,Xf,XP (by omega),R,Nat.sub_self]; rfl
    have cA:(fo g s l i j ++ List.replicate (g.af.length+1 - j) (⟨0,0⟩:Cell)).length=g.af.length+1:=by simp[R]; omega
    simp (disch:=omega)only[↓wr,seval,wq,t0,t1,t3,t9,t12,t72,t73,t74,ck,cv]
    refine ⟨by omega,by omega,aF hk (by omega) ⟨cj,?_,t0,t1,t3,t9,t12,t72,t73,rfl⟩⟩
    have N:=((f.perm O9).put (es':=e9 ((fo g s l i j ++ List.replicate (g.af.length+1 - j) (⟨0,0⟩:Cell)).set j c)) (by simp) (by rw[Xj]; exact cA.symm))
    rw[ar,← cu,← XO]
    rw[xS] at N ⊢
    exact N
   ·obtain rfl:j=g.af.length+1:=by omega
    rw[Nat.sub_self,List.replicate_zero,Yz] at p
    have R:(fo g s l i (g.af.length+1)).length=g.af.length+1:=by simp[fo]
    subst b5
    have O:=p.is 3 rfl (by simp)
    simp (disch:=omega)only[↓wr,seval,wq,t0,t1,t3,t9,t12,O,ed]
    intro q hq
    simp (disch:=omega)only[↓wr,seval,wq,bT,t0,t1,t3,t9,t12]
    have o4:=(p.fresh (o:=.arr 1 [[.sl n 0 (g.af.length+1) 2]]) hq).at 5 (by simp)
    refine cB o4 (by simp[aO]) (by unfold aB; simp[bm]; omega) (by unfold aB; simp[bm]; omega) ?_
    intro b0 H6 o5 _
    simp only[Yf,Yb,Yw,Yx] at o5
    have cC:=o5.is 4 rfl (by simp)
    simp (disch:=omega)only[↓wr,seval,wq,t0,t1,t3,t9,t12,cC,ed]
    intro q2 E
    simp (disch:=omega)only[↓wr,seval,wq,bT,t0,t1,t3,t9,t12]
    have o6:=(o5.fresh (o:=.arr 1 [[.sl nk 0 g.ak.length 1]]) E).at 6 (by simp)
    refine cB o6 (by simp[aO]) (by unfold aB; simp[bm]; omega) (by unfold aB; simp[bm]; omega) ?_
    intro b1 H7 o7 _
    simp only[Yf,Yb,Yw,Yx] at o7
    have cN:=o7.is 5 rfl (by simp)
    have cS:=(o7.own 1 rfl).cells
    have cV:=(o7.own 1 rfl).iO
    have c3:=(o7.own 0 rfl).cells
    have c5:=(o7.own 0 rfl).iO
    simp (disch:=omega)only[↓wr,seval,wq,t0,t1,t3,t9,t12,cN,cS,cV,c3,c5,ed]
    refine ⟨TO (p.own 5 rfl) ((p.at 3 (by simp)).off rfl _ (Xi (i:=4) rfl)),?_⟩
    rw[set_set]
    refine ⟨b0,b1,B,.sl n 0 (g.af.length+1) 2,.sl nk 0 g.ak.length 1,?_⟩
    have o8:=(((o7.at 5 (by simp)).put (es':=[ed g b0 b1 B]) rfl rfl).at 4 (by simp)).tail
    simp only[Yf,Yb,Yw,Yx] at o8
    simp only[bm,xt,wM,XD,XF,YK]
    exact o8.perm (Ur.append_right L))
abbrev eX:Int:=1073741824
inductive jv (E:Nat→List Nat):Nat→Nat→Prop
 | refl {x:Nat} : jv E x x
 | step {x y z:Nat} : y∈E x→jv E y z→jv E x z
theorem jv.trans {E:Nat→List Nat} {x y z:Nat} (h:jv E x y) (k:jv E y z):jv E x z:=by
 induction h with
 | refl=>exact k
 | step h1 _ a=>exact .step h1 (a k)
def lV (E:Nat→List Nat) (S0:Nat→BV) (z t:Nat):Prop:=∃ w,jv E z w∧(S0 w).getLsbD t=true
theorem lV.up {E:Nat→List Nat} {S0:Nat→BV} {x y t:Nat} (h:lV E S0 y t) (k:jv E x y):lV E S0 x t:=by
 obtain ⟨w,h1,a⟩:=h
 exact ⟨w,k.trans h1,a⟩
def jV {α:Type} (f:Nat→α) (x:Nat) (v:α):Nat→α:=fun z=>if z=x then v else f z
theorem eP {α:Type} {f:Nat→α} {x:Nat} {v:α} : jV f x v x=v:=by simp[jV]
theorem mI {α:Type} {f:Nat→α} {x z:Nat} {v:α} (h:z≠x):jV f x v z=f z:=by simp[jV,h]
structure pE (n:Nat) (E:Nat→List Nat) (S0:Nat→BV) (D:Nat→Int) (St:List Nat) (S:Nat→BV):Prop where
 nd:St.Nodup
 lt:∀ z∈St,z < n
 zero:∀ z,z < n→D z=0→S z=S0 z∧z ∉ St
 E4:∀ z,z < n→D z=eX→z ∉ St∧(∀ t,lV E S0 z t→(S z).getLsbD t=true)∧∀ y∈E z,D y=eX
 on:∀ z,z < n→D z≠0→D z≠eX→∃ p:Nat,St[p]?=some z∧1≤D z∧D z≤(p:Int)+1∧∃ w,St[(D z - 1).toNat]?=some w∧jv E z w
 sound:∀ z t,z < n→(S z).getLsbD t=true→lV E S0 z t
 base:∀ z,z < n→nG (S0 z) (S z)
def K9 (D:Nat→Int) (St:List Nat) (S:Nat→BV) (z y:Nat):Prop:=(D y=eX∧nG (S y) (S z))∨∃ q:Nat,St[q]?=some y∧D z≤(q:Int)+1
def Nv (E:Nat→List Nat) (D:Nat→Int) (St:List Nat) (S:Nat→BV) (z:Nat):Prop:=(∃ p:Nat,St[p]?=some z∧D z < (p:Int)+1)∧∀ y∈E z,K9 D St S z y
def zC (n:Nat) (E:Nat→List Nat) (S0:Nat→BV) (D:Nat→Int) (St:List Nat) (S:Nat→BV) (x:Nat) (D':Nat→Int) (St':List Nat) (S':Nat→BV):Prop :=
 pE n E S0 D' St' S'∧(∀ z,D z≠0→D' z=D z∧S' z=S z)∧((St'=St∧D' x=eX)∨∃ T,St'=St ++ x :: T∧D' x≤St.length∧∀ z∈x :: T,Nv E D' St' S' z∧D' x≤D' z∧nG (S' z) (S' x))
structure gO (n:Nat) (E:Nat→List Nat) (S0:Nat→BV) (D0:Nat→Int) (St:List Nat) (S1:Nat→BV) (x:Nat) (done:List Nat) (D:Nat→Int) (T:List Nat) (S:Nat→BV):Prop where
 g:pE n E S0 D (St ++ x :: T) S
 old:∀ z,D0 z≠0→D z=D0 z∧S z=S1 z
 own:1≤D x∧D x≤(St.length:Int)+1
 fin:∀ z∈T,Nv E D (St ++ x :: T) S z∧D x≤D z∧nG (S z) (S x)
 Oe:∀ y∈done,K9 D (St ++ x :: T) S x y
section
variable {n:Nat} {E:Nat→List Nat} {S0:Nat→BV} {D0 D:Nat→Int} {St T:List Nat} {S1 S:Nat→BV} {x:Nat} {done:List Nat}
theorem Cm (h:St.Nodup) (k:∀ z∈St,z < n):St.length≤n:=by
 have:∀ (l r:List Nat),l.Nodup→(∀ z∈l,z∈r)→l.length≤r.length:=by
  intro l
  induction l with
  | nil=>intro r _ _; simp
  | cons a l d =>
   intro r c hs
   rw[X6] at c
   obtain ⟨e,f,rfl⟩:=List.append_of_mem (hs a (by simp))
   have:=d (e ++ f) c.2 fun z b=>by
    have h1:=hs z (by simp[b])
    rw[XE,Xs] at h1
    rw[XE]
    rcases h1 with h1 | h1 | h1
    ·exact .inl h1
    ·exact absurd (h1 ▸ b) c.1
    ·exact .inr h1
   simp only[XV,Xt] at this ⊢
   omega
 have h1:=this St (List.range n) h fun z b=>XU.2 (k z b)
 simpa using h1
theorem pE.ne (_:(n:Int) < eX) (h:pE n E S0 D St S) {z:Nat} (a:z∈St):D z≠0∧D z≠eX:=by
 have hl:=h.lt z a
 refine ⟨fun e=>(h.zero z hl e).2 a,fun e=>(h.E4 z hl e).1 a⟩
theorem gO.start (_:(n:Int) < eX) (h:pE n E S0 D St S) (g:x < n) (i:D x=0):gO n E S0 D St S x [] (jV D x ((St.length:Int)+1)) [] S:=by
 have f:=(h.zero x g i).2
 have hl:=Cm (St:=x :: St) (n:=n) (X6.2 ⟨f,h.nd⟩) fun z c=>by
  rcases Xs.1 c with rfl | c
  ·exact g
  ·exact h.lt z c
 simp only[Xt] at hl
 refine ⟨⟨?_,fun z c=>?_,fun z c h1=>?_,fun z c h1=>?_,fun z c h1 k=>?_,h.sound,h.base⟩,fun z c=>⟨mI fun e=>c (by rw[e,i]),rfl⟩,by rw[eP]; omega,by simp,by simp⟩
 ·rw[Yc]
  refine ⟨h.nd,by simp,fun a o b l e=>?_⟩
  simp at l
  exact f (by rw[← l,← e]; exact o)
 ·rcases XE.1 c with c | c
  ·exact h.lt z c
  ·simp at c; subst c; exact g
 ·by_cases e:z=x
  ·rw[e,eP] at h1; omega
  ·rw[mI e] at h1
   obtain ⟨d,k2⟩:=h.zero z c h1
   exact ⟨d,by simp[k2,e]⟩
 ·by_cases e:z=x
  ·rw[e,eP] at h1; unfold eX at *; omega
  ·rw[mI e] at h1
   obtain ⟨d,k2,j⟩:=h.E4 z c h1
   refine ⟨by simp[d,e],k2,fun y q=>?_⟩
   have:=j y q
   rw[mI fun r=>by rw[r,i] at this; unfold eX at this; omega]; exact this
 ·by_cases e:z=x
  ·subst e
   rw[eP]
   refine ⟨St.length,by simp,by omega,Int.le_refl _,z,?_,.refl⟩
   rw[show ((St.length:Int)+1 - 1).toNat=St.length by omega]; simp
  ·rw[mI e] at h1 k ⊢
   obtain ⟨p,d,k2,j,w,m,s⟩:=h.on z c h1 k
   exact ⟨p,by rw[XA (Xq.1 d).1]; exact d,k2,j,w,by rw[XA (Xq.1 m).1]; exact m,s⟩
theorem gO.put (hE:∀ x,x < n→∀ y∈E x,y < n) (L:(n:Int) < eX) (M:x < n) {y:Nat} (H:y∈E x) (d:pE n E S0 D (St ++ x :: T) S) (hold:∀ z,D0 z≠0→D z=D0 z∧S z=S1 z) (Q:D0 x=0) (N:1≤D x∧D x≤(St.length:Int)+1) (I:D y≠0)
  (v:∀ z∈T,Nv E D (St ++ x :: T) S z∧(D x≤D z∧nG (S z) (S x)∨D y≤D z∧nG (S z) (S y))) (A:∀ z∈done,K9 D (St ++ x :: T) S x z) :
  gO n E S0 D0 St S1 x (done ++ [y]) (jV D x (min (D x) (D y))) T (jV S x (S x ||| S y)):=by
 have B:=hE x M y H
 have C:x∈St ++ x :: T:=by simp
 have g:=d.ne L C
 have i:∀ z,z≠x→jV D x (min (D x) (D y)) z=D z:=fun z e=>mI e
 have l:∀ z,z≠x→jV S x (S x ||| S y) z=S z:=fun z e=>mI e
 have hle:jV D x (min (D x) (D y)) x≤D x:=by rw[eP]; omega
 have j:nG (S x) (jV S x (S x ||| S y) x):=fun t m=>by rw[eP,Ye,m]; rfl
 have k:nG (S y) (jV S x (S x ||| S y) x):=fun t m=>by rw[eP,Ye,m,Bool.or_true]
 have F:∀ z,nG (S z) (jV S x (S x ||| S y) z):=fun z=>by
  by_cases e:z=x
  ·rw[e]; exact j
  ·rw[l z e]; exact fun _ h=>h
 have a:∀ z,D z=eX→z≠x:=fun z h e=>g.2 (by rw[← e]; exact h)
 have s:1≤D y∧((D y=eX)∨∃ p:Nat,(St ++ x :: T)[p]?=some y∧D y≤(p:Int)+1∧∃ w,(St ++ x :: T)[(D y - 1).toNat]?=some w∧jv E y w):=by
  by_cases o:D y=eX
  ·exact ⟨by rw[o]; decide,.inl o⟩
  ·obtain ⟨p,r,k2,f,J⟩:=d.on y B I o
   exact ⟨k2,.inr ⟨p,r,f,J⟩⟩
 obtain ⟨O,K,R,U,V⟩:=d.on x M g.1 g.2
 have W:D x < eX:=by
  have:=Cm d.nd d.lt
  have:=(Xq.1 K).1
  omega
 refine ⟨⟨d.nd,d.lt,fun z b h1=>?_,fun z b h1=>?_,fun z b h1 P=>?_,fun z t b h1=>?_,fun z b t h1=>F z t (d.base z b t h1)⟩,fun z b=>?_,?_,fun z b=>?_,fun z b=>?_⟩
 ·by_cases e:z=x
  ·rw[e,eP] at h1; omega
  ·rw[i z e] at h1
   rw[l z e]; exact d.zero z b h1
 ·by_cases e:z=x
  ·rw[e,eP] at h1
   have:=d.ne L C
   omega
  ·rw[i z e] at h1
   obtain ⟨r,k2,f⟩:=d.E4 z b h1
   rw[l z e]
   exact ⟨r,k2,fun u hu=>by rw[i u (a u (f u hu))]; exact f u hu⟩
 ·by_cases e:z=x
  ·subst e
   rw[eP]
   rcases Int.le_total (D z) (D y) with G | G
   ·rw[Int.min_eq_left G]
    exact ⟨O,K,R,U,V⟩
   ·rw[Int.min_eq_right G]
    rcases s.2 with o | ⟨p,r,f,w,J,X⟩
    ·rw[o] at G; omega
    ·exact ⟨O,K,s.1,by omega,w,J,.step H X⟩
  ·rw[i z e] at h1 P ⊢
   exact d.on z b h1 P
 ·by_cases e:z=x
  ·subst e
   rw[eP,Ye,Yp] at h1
   rcases h1 with h1 | h1
   ·exact d.sound z t b h1
   ·exact (d.sound y t B h1).up (.step H .refl)
  ·rw[l z e] at h1; exact d.sound z t b h1
 ·have e:z≠x:=fun e=>b (by rw[e]; exact Q)
  rw[i z e,l z e]; exact hold z b
 ·rw[eP]; omega
 ·have c:z≠x:=fun e=>by
   have h1:=d.nd
   rw[Yc] at h1
   exact (X6.1 h1.2.1).1 (e ▸ b)
  obtain ⟨⟨r,k2⟩,f⟩:=v z b
  rw[i z c,l z c]
  refine ⟨⟨by rw[i z c]; exact r,fun u hu=>?_⟩,?_,?_⟩
  ·rcases k2 u hu with ⟨m1,m2⟩ | ⟨q,m1,m2⟩
   ·left
    rw[i u (a u m1),l u (a u m1),l z c]; exact ⟨m1,m2⟩
   ·right
    rw[i z c]; exact ⟨q,m1,m2⟩
  ·rw[eP]
   rcases f with f | f <;> omega
  ·rcases f with f | f
   ·exact fun t m=>j t (f.2 t m)
   ·exact fun t m=>k t (f.2 t m)
 ·rcases XE.1 b with b | b
  ·rcases A z b with ⟨m1,m2⟩ | ⟨q,m1,m2⟩
   ·left
    rw[i z (a z m1),l z (a z m1)]
    exact ⟨m1,fun t m=>j t (m2 t m)⟩
   ·right
    exact ⟨q,m1,by omega⟩
  ·rw[X8] at b
   subst b
   rcases s.2 with o | ⟨p,r,f,_⟩
   ·left
    rw[i z (a z o),l z (a z o)]
    exact ⟨o,k⟩
   ·right
    exact ⟨p,r,by rw[eP]; omega⟩
theorem gO.Sw (hE:∀ x,x < n→∀ y∈E x,y < n) (c:(n:Int) < eX) (d:x < n) (e:D0 x=0) (h:gO n E S0 D0 St S1 x done D T S) {y:Nat} (f:y∈E x) (a:D y≠0) :
  gO n E S0 D0 St S1 x (done ++ [y]) (jV D x (min (D x) (D y))) T (jV S x (S x ||| S y)) :=
 gO.put hE c d f h.g h.old e h.own a (fun z b=>⟨(h.fin z b).1,.inl (h.fin z b).2⟩) h.Oe
theorem Kb {l r:List Nat} {p z:Nat} (h:l[p]?=some z):(l ++ r)[p]?=some z:=by
 rw[XA (Xq.1 h).1]; exact h
theorem gO.Cb (hE:∀ x,x < n→∀ y∈E x,y < n) (i:(n:Int) < eX) (B:x < n) (C:D0 x=0) (h:gO n E S0 D0 St S1 x done D T S) {y:Nat} (F:y∈E x) (_:D y=0) {D':Nat→Int} {j:List Nat} {S':Nat→BV} (J:zC n E S0 D (St ++ x :: T) S y D' j S') :
  ∃ G,j=St ++ x :: G∧gO n E S0 D0 St S1 x (done ++ [y]) (jV D' x (min (D' x) (D' y))) G (jV S' x (S' x ||| S' y)):=by
 obtain ⟨o,hold,K⟩:=J
 have t:x∈St ++ x :: T:=by simp
 have b:=h.g.ne i t
 obtain ⟨v,L⟩:=hold x b.1
 have k:∀ z,D0 z≠0→D' z=D0 z∧S' z=S1 z:=fun z a=>by
  obtain ⟨H,k2⟩:=h.old z a
  obtain ⟨w,A⟩:=hold z (by rw[H]; exact a)
  exact ⟨w.trans H,A.trans k2⟩
 have f:∀ (r:List Nat) (z u:Nat),D z≠0→K9 D (St ++ x :: T) S z u→K9 D' (St ++ x :: T ++ r) S' z u:=fun r z u a hu=>by
  obtain ⟨s,z2⟩:=hold z a
  rcases hu with ⟨m1,m2⟩ | ⟨q,m1,m2⟩
  ·left
   obtain ⟨M,N⟩:=hold u (by rw[m1]; decide)
   rw[M,N,z2]; exact ⟨m1,m2⟩
  ·right
   exact ⟨q,Kb m1,by rw[s]; exact m2⟩
 have I:∀ z∈T,D z≠0:=fun z a=>(h.g.ne i (by simp[a])).1
 have d:∀ (r:List Nat),∀ z∈T,Nv E D' (St ++ x :: T ++ r) S' z∧(D' x≤D' z∧nG (S' z) (S' x)):=fun r z a=>by
  obtain ⟨⟨⟨p,O,P⟩,k2⟩,w,A⟩:=h.fin z a
  obtain ⟨s,z2⟩:=hold z (I z a)
  exact ⟨⟨⟨p,Kb O,by rw[s]; exact P⟩,fun u hu=>f r z u (I z a) (k2 u hu)⟩,by rw[v,s]; exact w,by rw[L,z2]; exact A⟩
 rcases K with ⟨rfl,Q⟩ | ⟨l,rfl,hle,c⟩
 ·refine ⟨T,rfl,gO.put hE i B F o k C (by rw[v]; exact h.own) (by rw[Q]; decide) (fun z a=>?_) (fun z a=>?_)⟩
  ·have:=d [] z a
   rw[Yz] at this
   exact ⟨this.1,.inl this.2⟩
  ·have:=f [] x z b.1 (h.Oe z a)
   rwa [Yz] at this
 ·have e:St ++ x :: T ++ y :: l=St ++ x :: (T ++ y :: l):=by simp
  refine ⟨T ++ y :: l,e,?_⟩
  rw[e] at o c
  have m:=o.ne i (z:=y) (by simp)
  refine gO.put hE i B F o k C (by rw[v]; exact h.own) m.1 (fun z a=>?_) (fun z a=>?_)
  ·rcases XE.1 a with a | a
   ·have:=d (y :: l) z a
    rw[e] at this
    exact ⟨this.1,.inl this.2⟩
   ·exact ⟨(c z a).1,.inr (c z a).2⟩
  ·have:=f (y :: l) x z b.1 (h.Oe z a)
   rwa [e] at this
theorem gO.keep (h:gO n E S0 D0 St S1 x (E x) D T S) (b:D x≠(St.length:Int)+1):zC n E S0 D0 St S1 x D (St ++ x :: T) S:=by
 have:=h.own
 refine ⟨h.g,h.old,.inr ⟨T,rfl,by omega,fun z a=>?_⟩⟩
 rcases Xs.1 a with rfl | a
 ·exact ⟨⟨⟨St.length,by simp,by omega⟩,h.Oe⟩,Int.le_refl _,fun _ h=>h⟩
 ·exact h.fin z a
theorem gO.pop (hE:∀ x,x < n→∀ y∈E x,y < n) (K:(n:Int) < eX) (M:x < n) (N:∀ z∈x :: T,D0 z=0) (h:gO n E S0 D0 St S1 x (E x) D T S) (he:D x=(St.length:Int)+1) :
  zC n E S0 D0 St S1 x (fun z=>if z∈x :: T then eX else D z) St (fun z=>if z∈x :: T then S x else S z):=by
 have c:=h.g
 have b:∀ z∈x :: T,z∈St ++ x :: T:=fun z a=>YT _ a
 have o:=c.nd
 rw[Yc] at o
 have f:∀ (q u:Nat),(St ++ x :: T)[q]?=some u→St.length≤q→u∈x :: T:=fun q u hq hl=>by
  rw[XP hl] at hq
  exact Xi hq
 have r:∀ z∈x :: T,nG (S z) (S x)∧D x≤D z∧∀ y∈E z,K9 D (St ++ x :: T) S z y:=fun z a=>by
  rcases Xs.1 a with rfl | a
  ·exact ⟨fun _ h=>h,Int.le_refl _,h.Oe⟩
  ·obtain ⟨d,k2,j⟩:=h.fin z a
   exact ⟨j,k2,d.2⟩
 have i:∀ z∈x :: T,∀ y∈E z,y∈x :: T∨(D y=eX∧nG (S y) (S x)):=fun z a y l=>by
  obtain ⟨d,k2,j⟩:=r z a
  rcases j y l with ⟨m1,m2⟩ | ⟨q,m1,m2⟩
  ·exact .inr ⟨m1,fun t B=>d t (m2 t B)⟩
  ·exact .inl (f q y m1 (by omega))
 have s:∀ z w:Nat,jv E z w→z∈x :: T→∀ t,(S0 w).getLsbD t=true→(S x).getLsbD t=true:=by
  intro z w hr
  induction hr with
  | @refl z =>
   intro a t B
   exact (r z a).1 t (c.base z (c.lt z (b z a)) t B)
  | @step z y w l hr F =>
   intro a t B
   rcases i z a y l with k | ⟨d,k2⟩
   ·exact F k t B
   ·have v:=hE z (c.lt z (b z a)) y l
    exact k2 t ((c.E4 y v d).2.1 t ⟨w,hr,B⟩)
 have A:∀ (m p z:Nat),p < m→(St ++ x :: T)[p]?=some z→z∈x :: T→jv E z x:=by
  intro m
  induction m with
  | zero=>intro p z h; omega
  | succ m F =>
   intro p z hp G a
   by_cases e:z=x
   ·rw[e]; exact .refl
   ·have H:z∈T:=(Xs.1 a).resolve_left e
    obtain ⟨⟨⟨O,d,k2⟩,_⟩,j,_⟩:=h.fin z H
    have I:=c.lt z (b z a)
    obtain ⟨z0,P⟩:=c.ne K (b z a)
    obtain ⟨U,m1,m2,m3,w,m4,m5⟩:=c.on z I z0 P
    have Q:O=p:=(List.getElem?_inj (Xq.1 d).1 c.nd).1 (d.trans G.symm)
    have hw:=f _ w m4 (by omega)
    exact m5.trans (F (D z - 1).toNat w (by omega) m4 hw)
 have J:∀ z,D z=eX→z ∉ x :: T:=fun z a hm=>(c.ne K (b z hm)).2 a
 refine ⟨⟨o.1,fun z a=>c.lt z (YR _ a),fun z a h1=>?_,fun z a h1=>?_,fun z a h1 C=>?_,fun z t a h1=>?_,fun z a t h1=>?_⟩,fun z a=>?_,.inl ⟨rfl,by simp⟩⟩
 ·split at h1
  ·simp[eX] at h1
  ·rename_i hm
   rw[Xd hm]
   obtain ⟨d,k2⟩:=c.zero z a h1
   exact ⟨d,fun hs=>k2 (YR _ hs)⟩
 ·by_cases hm:z∈x :: T
  ·rw[Xg hm]
   refine ⟨fun hs=>o.2.2 z hs z hm rfl,fun t ⟨w,d,k2⟩=>s z w d hm t k2,fun y l=>?_⟩
   split
   ·rfl
   ·rename_i v
    exact ((i z hm y l).resolve_left v).1
  ·rw[Xd hm] at h1 ⊢
   obtain ⟨d,k2,j⟩:=c.E4 z a h1
   refine ⟨fun hs=>d (YR _ hs),k2,fun y l=>?_⟩
   split
   ·rfl
   ·exact j y l
 ·by_cases hm:z∈x :: T
  ·rw[Xg hm] at C; exact absurd rfl C
  ·rw[Xd hm] at h1 C ⊢
   obtain ⟨p,d,k2,j,w,L,R⟩:=c.on z a h1 C
   have hp:p < St.length:=Nat.lt_of_not_le fun hp=>hm (f p z d hp)
   rw[XA hp] at d
   rw[XA (by omega)] at L
   exact ⟨p,d,k2,j,w,L,R⟩
 ·by_cases hm:z∈x :: T
  ·rw[Xg hm] at h1
   obtain ⟨p,hp,e⟩:=Yh.1 (b z hm)
   exact (c.sound x t M h1).up (A (p+1) p z (by omega) (by rw[Xc hp,e]) hm)
  ·rw[Xd hm] at h1
   exact c.sound z t a h1
 ·by_cases hm:z∈x :: T
  ·rw[Xg hm]
   exact (r z hm).1 t (c.base z a t h1)
  ·rw[Xd hm]; exact c.base z a t h1
 ·have hm:z ∉ x :: T:=fun hm=>a (N z hm)
  simp only[Xd hm]; exact h.old z a
theorem gO.fresh (f:(n:Int) < eX) (i:pE n E S0 D0 St S1) (h:gO n E S0 D0 St S1 x done D T S):∀ z∈x :: T,D0 z=0:=fun z d=>by
 refine Yj fun a=>?_
 have hm:z∈St ++ x :: T:=YT _ d
 have c:=h.g.lt z hm
 have b:=h.g.nd
 rw[Yc] at b
 by_cases e:D0 z=eX
 ·exact (h.g.ne f hm).2 ((h.old z a).1.trans e)
 ·obtain ⟨p,j,_⟩:=i.on z c a e
  exact b.2.2 z (Xi j) z d rfl
theorem pE.all (h:pE n E S0 D St S) (hd:∀ z,z < n→D z=eX) {z t:Nat} (a:z < n):(S z).getLsbD t=true↔lV E S0 z t:=⟨h.sound z t a,(h.E4 z a (hd z a)).2.1 t⟩
theorem zC.top {D':Nat→Int} {a:List Nat} {S':Nat→BV} (h:zC n E S0 D [] S x D' a S') (b:x < n):a=[]∧D' x=eX:=by
 obtain ⟨g,_,⟨h1,c⟩ | ⟨T,h1,c,f⟩⟩:=h
 ·exact ⟨h1,c⟩
 ·exfalso
  simp only[XN] at c
  obtain ⟨⟨⟨p,i,k2⟩,_⟩,_⟩:=f x (by simp)
  have hm:x∈a:=Xi i
  by_cases d:D' x=0
  ·exact (g.zero x b d).2 hm
  ·by_cases e:D' x=eX
   ·exact (g.E4 x b e).1 hm
   ·obtain ⟨_,_,j,_⟩:=g.on x b d e
    omega
end
section
variable {P:Program} {T:Env} {H:View} {K:V→View→Prop} {w:cD (T,H,K)} {t ty:TypeId}
theorem Q2 {d:Operand} {id off len sz bytes s:Nat} {z:List V} {es:List (List V)} (he:qY P t=some (sz,bytes,z)) (hd:ev T d=.sl id off len sz) (hH:H id=.arr s es) (hl:off+len≤es.length) (h:len≠0)
  (hk:K (.bp []) (H.set id (.arr sz (dY es off (List.replicate len z))))):jH P (.call { callee:=.builtin .clear,args:=#[d],argTypes:=#[t] }) ty T H K w:=by
 obtain ⟨e,ti,b,hi,c,i,f,a,g,rfl,rfl⟩:=lO he
 intro n _
 refine ⟨.bp [],.fk id (.arr ti.size (dY es off (List.replicate len z))),[id],?_,hk⟩
 simp only[sI,cp,oper]
 simp only[XI] at a
 simp[vV,b,hd,cH,c,h,hH,hl,g,i,f,a]
 exact a
end
theorem zf:∀ (xs A B:List (List V)),xs.length≤B.length→dY (A ++ B) A.length xs=A ++ xs ++ B.drop xs.length
 | [],A,B,_=>by simp[dY]
 | x :: r,A,[],h=>by simp at h
 | x :: r,A,b :: B,h=>by
  rw[dY,List.set_append_right _ _ (Xo _),Nat.sub_self,List.set_cons_zero]
  have:=zf r (A ++ [x]) B (by simpa using h)
  simpa using this
theorem yP {id off k m:Nat} (hm:m≤k):dx 2 (.sl id off k 2) (some (gi m)) none=some (.sl id (off+m) (k - m) 2,.none,[]):=by
 simp[dx,bound,asNat,hm]
theorem Is {id off k m:Nat} (hm:m≤k):dx 2 (.sl id off k 2) none (some (gi m))=some (.sl id off m 2,.none,[]):=by
 simp[dx,bound,asNat,hm]
def gn:SC :=
 ae [ae [ab [aa 29 5,aa 30 4,aN 31 30,aV 32 .lss 29 31],bY 32 (.exit 2)],.block 3 (ae [ab [aa 35 4,aa 36 5,aQ 37 2 35 36,bg 38 2 37,aa 39 4,aa 40 5,aH 41 .sub 40 1,aQ 42 2 39 41,bg 43 2 42,((some 44),.op (.old (.binOp .neq 33 (.tmp 38) (.tmp 43) 33) 4))],bf 44 (ae [ab [aa 45 0,aa 46 3,aa 47 4,aa 48 5,aQ 49 2 47 48,bg 50 2 49,aQ 51 2 45 46,bU 2 51 50],ab [aa 52 3,aH 53 .add 52 1,aa 3 53]])]),ab [aa 33 5,aH 34 .add 33 1,aa 5 34]]
def gj:SC :=
 ae [ae [ab [aa 10 3,aa 11 0,aN 12 11,aV 13 .lss 10 12],bY 13 (.exit 0)],.block 1 (ae [ab [aa 16 0,aa 17 3,aQ 18 2 16 17,bg 19 2 18,aa 20 0,aa 21 3,aH 22 .sub 21 1,aQ 23 2 20 22,bg 24 2 23,((some 25),.op (.old (.binOp .eql 33 (.tmp 19) (.tmp 24) 33) 4))],bf 25 (ae [ab [aa 26 0,aa 27 3,((some 28),.op (.slice 2 (.tmp 26) (some (.tmp 27)) none)),aa 4 28],ae [ab [aS 5 1],b6 2 gn],ab [aa 54 0,aa 55 3,((some 56),.op (.slice 2 (.tmp 54) (some (.tmp 55)) none)),(none,.op (.old (.call { callee:=.builtin .clear,args:=#[(.tmp 56)],argTypes:=#[27] }) 0))],ab [aa 57 0,aa 58 3,((some 59),.op (.slice 2 (.tmp 57) none (some (.tmp 58)))),aa 2 59],.ret])]),ab [aa 14 3,aH 15 .add 14 1,aa 3 15]]
def gN:SF:=⟨ae [ab [df 2 1],ae [ab [aa 6 0,aN 7 6,aH 8 .lss 7 2],bf 8 (ae [ab [aa 9 0,aa 2 9],.ret])],ae [ab [aS 3 1],b6 0 gj],ab [aa 60 0,aa 2 60],.ret],
 [.tmp 2],61⟩
theorem kq:aR Tryz.prog 114 []=some gN:=by kernel_rfl
def AW:SF:=⟨ae [ab [df 2 1],ab [aa 3 0,r7 4 112 [(.tmp 3),(.val (.fn 113 [] []))]],ab [aa 5 0,bz 6 114 [5],aa 2 6],.ret],
 [.tmp 2],7⟩
theorem Eh:aR Tryz.prog 64 []=some AW:=by kernel_rfl
theorem sQ {l:List aD} {i:Nat} (h:i < l.length):(aT l).getD i []=[gi (l.getD i iw).ax,gi (l.getD i iw).dot]:=rR (getD_some h)
theorem MS (l:List aD) (i j:Nat) (x d:aD) (hi:i < l.length):(l.set i x).getD j d=if i=j then x else l.getD j d:=by
 rw[fj]
 by_cases e:i=j
 ·rw[Xg ⟨e,hi⟩,Xg e]
 ·rw[Xd (fun h=>e h.1),Xd e]
theorem MB (l:List aD) (U:l.length≤100000) (u:V) (H:View) (C:aX H u 2 (aT l)):aw Tryz.prog 114 [u] H fun r H'=>(∀ id,owner u≠some id→H' id=H id)∧aX H' r 2 (aT (fL l l.length))∧owner r=owner u:=by
 refine aw.cut (K:=fun r H'=>(H'=H∧r=u∧fL l l.length=l)∨∃ id rest,u=.sl id 0 l.length 2∧r=.sl id 0 (fL l l.length).length 2∧H'=H.set id (.arr 2 (aT (fL l l.length) ++ rest))) ?_ ?_
 rotate_left
 ·rintro r H' (⟨rfl,rfl,e⟩ | ⟨id,rest,rfl,rfl,rfl⟩)
  ·exact .inl ⟨fun _ _=>rfl,by rw[e]; exact C,rfl⟩
  ·refine .inr ⟨id,2,aT (fL l l.length),rest,by simp[View.set],fun j L=>?_,?_,rfl⟩
   ·rw[set_set]
    simp only[View.set]
    rw[Xd (fun e=>L (by rw[e]; rfl))]
   ·rw[set_set]
    exact .inr ⟨id,by rw[bM],by simp[View.set]⟩
 refine aw.of mixed kq ?_
 have hlen:cH u=some l.length:=by rw[C.len,bM]
 simp (disch:=omega)only[↓wr,seval,wq,gN,hlen]
 apply ah.dec<;>intro n
 ·simp (disch:=omega)only[↓wr,seval,wq]
  left
  try refine ⟨rfl,rfl,?_⟩
  match l,n with
  | [],_=>rfl
  | [x],_=>rfl
  | _ :: _ :: _,n=>simp at n; omega
 obtain ⟨id,hu,t⟩:=C.sl (by rw[bM]; omega)
 rw[bM] at hu
 subst hu
 simp (disch:=omega)only[↓wr,seval,wq]
 refine aU.up (l.length - 1) (fun i T H'=>H=H'∧(∀ j,0 < j→j < i+1→l.getD j iw≠l.getD (j - 1) iw)∧T 0=.sl id 0 l.length 2∧T 3=gi ((i+1:Nat):Int)) ⟨rfl,fun j h1 n=>by omega,rfl,rfl⟩ ?_
 rintro i k T _ hk ⟨rfl,o,t0,t3⟩
 simp (disch:=omega)only[↓wr,seval,wq,gj,t0,t3]
 apply ah.dec<;>intro O
 rotate_left
 ·simp (disch:=omega)only[↓wr,seval,wq,t0]
  left
  try refine ⟨rfl,rfl,?_⟩
  rw[Ab l _ (Xo _) (fun j h1 n=>o j h1 (by omega)),List.take_length]
 have D:i+1 < l.length:=by omega
 have P:(((i+1:Nat):Int) - 1)=(i:Int):=by omega
 simp (disch:=omega)only[↓wr,seval,wq,t0,t3,t,sQ D,sQ (show i < l.length by omega),P]
 refine ⟨by omega,by rw[bM]; omega,?_⟩
 refine ⟨by omega,by rw[bM]; omega,?_⟩
 generalize M:l.getD (i+1) iw=x
 generalize N:l.getD i iw=y
 refine jB (xs:=#[.int .i64 x.ax,.int .i64 x.dot]) (ys:=#[.int .i64 y.ax,.int .i64 y.dot]) Tryz.underlying33 (by kernel_rfl) (by kernel_rfl) ?_ ?_ (rz x y) (.inl ⟨rfl,rfl⟩) ?_
 ·rfl
 ·rfl
 rw[Ai]
 simp (disch:=omega)only[↓wr,seval,wq,t0,t3]
 apply ah.dec<;>intro heq
 rotate_left
 ·simp (disch:=omega)only[↓wr,seval,wq,t0,t3]
  refine aF hk (by omega) ⟨rfl,fun j h1 n=>?_,t0,by push_cast; rfl⟩
  rcases XB j (i+1) with q | q
  ·exact o j h1 q
  ·have:j=i+1:=by omega
   subst this
   rw[Nat.add_sub_cancel,M,N]; exact heq
 have g:fL l (i+1+1)=l.take (i+1):=by
  rw[fL,Xd,Ab l (i+1) (by omega) o]
  rw[Nat.add_sub_cancel,M,N]
  simp[heq]
 simp (disch:=omega)only[↓wr,seval,wq,t0,t3,yP (id:=id) (off:=0) (k:=l.length) (m:=i+1) (by omega)]
 refine aU.up (l.length - (i+1) - 1) (fun i2 T H'=>∃ (a:Nat) (cur:List aD),H'=H.set id (.arr 2 (aT cur))∧cur.length=l.length∧i+1≤a∧a≤i+1+i2∧cur.take a=fL l (i+1+(i2+1))∧(∀ j,a≤j→cur.getD j iw=l.getD j iw) ∧
  T 0=.sl id 0 l.length 2∧T 3=gi a∧T 4=.sl id (i+1) (l.length - (i+1)) 2∧T 5=gi ((i2+1:Nat):Int)) ⟨i+1,l,?_,rfl,Xo _,by omega,by rw[g],fun _ _=>rfl,t0,t3,?_,rfl⟩ ?_
 ·funext j; simp only[View.set]; split
  ·rename_i e; rw[e,t]
  ·rfl
 ·rfl
 clear t0 t3 hk
 rintro i2 k2 W _ v ⟨a,cur,rfl,w,Q,X,c,d,t0,t3,t4,t5⟩
 have b:(H.set id (.arr 2 (aT cur))) id=.arr 2 (aT cur):=by simp[View.set]
 simp (disch:=omega)only[↓wr,seval,wq,gn,t0,t3,t4,t5]
 apply ah.dec<;>intro E
 ·have hp:i+1+(i2+1) < l.length:=by omega
  have R:(((i2+1:Nat):Int) - 1)=(i2:Int):=by omega
  simp (disch:=omega)only[↓wr,seval,wq,t0,t3,t4,t5,b,R,sQ (l:=cur) (show i+1+(i2+1) < cur.length by omega),sQ (l:=cur) (show i+1+i2 < cur.length by omega)]
  refine ⟨by omega,by rw[bM]; omega,?_⟩
  refine ⟨by omega,by rw[bM]; omega,?_⟩
  rw[d _ (show a≤i+1+(i2+1) by omega),d _ (show a≤i+1+i2 by omega)]
  generalize A:l.getD (i+1+(i2+1)) iw=f
  generalize F:l.getD (i+1+i2) iw=B
  refine jB (xs:=#[.int .i64 f.ax,.int .i64 f.dot]) (ys:=#[.int .i64 B.ax,.int .i64 B.dot]) Tryz.underlying33 (by kernel_rfl) (by kernel_rfl) ?_ ?_ (rz f B) (.inr ⟨rfl,rfl⟩) ?_
  ·rfl
  ·rfl
  rw[Ai]
  simp (disch:=omega)only[↓wr,seval,wq,t0,t3,t4,t5]
  have h:fL l (i+1+(i2+1+1))=if f=B then fL l (i+1+(i2+1)) else fL l (i+1+(i2+1)) ++ [f]:=by
   rw[show i+1+(i2+1+1)=(i+1+(i2+1))+1 by omega,fL,A,show i+1+(i2+1) - 1=i+1+i2 by omega,F]
   by_cases e:f=B
   ·rw[Xg e,Xd (by simp[e])]
   ·rw[Xd e,Xg (.inr e)]
  apply ah.dec<;>intro he
  ·simp (disch:=omega)only[↓wr,seval,wq,t0,t3,t4,t5]
   rw[Xg he] at h
   exact aF v (by omega) ⟨a,cur,rfl,w,Q,by omega,by rw[h]; exact c,d,t0,t3,t4,by push_cast; rfl⟩
  ·simp (disch:=omega)only[↓wr,seval,wq,t0,t3,t4,t5,b,sQ (l:=cur) (show i+1+(i2+1) < cur.length by omega)]
   rw[d _ (show a≤i+1+(i2+1) by omega),A]
   have p:(aT cur).getD a []=[gi (cur.getD a iw).ax,gi (cur.getD a iw).dot]:=sQ (by omega)
   have G:(aT cur).set a [gi f.ax,gi f.dot]=aT (cur.set a f):=by simp[aT,YL,cr]
   simp (disch:=omega)only[↓wr,seval,wq,t0,t3,t4,t5,b,p,G]
   rw[set_set]
   rw[Xd he] at h
   refine ⟨by omega,by rw[bM]; omega,?_⟩
   refine ⟨by omega,by rw[bM]; omega,?_⟩
   refine aF v (by omega) ⟨a+1,cur.set a f,rfl,by simp[w],by omega,by omega,?_,fun j L=>?_,t0,by push_cast; rfl,t4,by push_cast; rfl⟩
   ·rw[h,← c,XH,List.take_set_of_le (Xo _),Y3 (by omega)]; rfl
   ·rw[MS _ _ _ _ _ (by omega),Xd (by omega)]
    exact d j (by omega)
 ·have I:i+1+(i2+1)=l.length:=by omega
  rw[I] at c
  have S:l.length - a≠0:=by omega
  have p:a=(fL l l.length).length:=by rw[← c,X0]; omega
  simp (disch:=omega)only[↓wr,seval,wq,t0,t3,yP (id:=id) (off:=0) (k:=l.length) (m:=a) (by omega)]
  refine Q2 (id:=id) (off:=a) (len:=l.length - a) (sz:=2) (bytes:=16) (s:=2) (z:=[gi 0,gi 0]) (es:=aT cur) (by kernel_rfl) (by simp (disch:=omega)only[↓wr,seval,wq]; try rw[Yi]) b (by rw[bM]; omega) S ?_
  rw[set_set]
  have J:dY (aT cur) a (List.replicate (l.length - a) [gi 0,gi 0])=aT (fL l l.length) ++ List.replicate (l.length - a) [gi 0,gi 0]:=by
   have h1:=zf (List.replicate (l.length - a) [gi 0,gi 0]) (aT (cur.take a)) (aT (cur.drop a)) (by simp[aT]; omega)
   rw[show aT (cur.take a) ++ aT (cur.drop a)=aT cur by rw[aT,aT,← XD,List.take_append_drop]; rfl] at h1
   rw[show (aT (cur.take a)).length=a by rw[bM,X0]; omega] at h1
   rw[h1,c,XK (by simp[aT]; omega),Yz]
  rw[J]
  simp (disch:=omega)only[↓wr,seval,wq,t0,t3,Is (id:=id) (off:=0) (k:=l.length) (m:=a) (by omega)]
  right
  exact ⟨id,List.replicate (l.length - a) [gi 0,gi 0],rfl,by rw[p],rfl⟩
theorem KP (l:List aD) (h:l.length≤100000) (u:V) (H:View) (c:aX H u 2 (aT l)):aw Tryz.prog 64 [u] H fun r H'=>(∀ id,owner u≠some id→H' id=H id)∧aX H' r 2 (aT (AA l))∧owner r=owner u:=by
 refine aw.of mixed Eh ?_
 simp (disch:=omega)only[↓wr,seval,wq,AW]
 refine ay.dZ ((Sr l (by omega) u H c).mono ?_)
 rintro r d ⟨rfl,k2,e⟩
 simp (disch:=omega)only[↓wr,seval,wq]
 refine ay.dZ ((MB (eF l) (by rw[jy]; omega) u d e).mono ?_)
 rintro r i ⟨f,b,g⟩
 simp (disch:=omega)only[↓wr,seval,wq]
 rw[jy] at b
 exact ⟨fun id a=>by rw[f id a,k2 id a],b,g⟩
def nK:SC :=
 ae [ab [aV 30 .lss 29 28],bY 30 (.exit 0),.block 1 (ae [ab [aQ 31 1 27 29,aj 32 31,aa 8 32],ae [ab [aj 33 2,aa 34 8,aQ 35 1 33 34,aj 36 35,aH 37 .eql 36 0],bf 37 (ab [aj 38 4,aa 39 8,((some 40),.call (.tmp 38) [(.tmp 39)])])],ab [aj 41 2,aa 42 0,aj 43 2,aa 44 0,aQ 45 1 43 44,aj 46 45,aj 47 2,aa 48 8,aQ 49 1 47 48,aj 50 49,((some 51),.op (.mm false (.tmp 46) (.tmp 50))),aQ 52 1 41 42,bU 1 52 51],ab [aj 53 3,ep 54 53,ao 55 8 54,aj 56 55,aa 57 0,aQ 58 1 56 57,aj 59 58,aj 60 3,ep 61 60,ao 62 8 61,aj 63 62,aa 64 8,aQ 65 1 63 64,aj 66 65,aV 67 .or 59 66,aQ 68 1 56 57,bU 1 68 67]]),ab [aH 69 .add 29 1,aa 29 69]]
def nO:SC :=
 ae [ab [aV 82 .lss 81 80],bY 82 (.exit 2),.block 3 (ae [ab [aQ 83 1 79 81,aj 84 83,aa 10 84],ab [aj 85 2,aa 86 10,aQ 87 1 85 86,(none,.op (.store 1 (.tmp 87) (.val (.val (.int .i64 1073741824)))))],ab [aj 88 3,ep 89 88,ao 90 8 89,aj 91 90,aa 92 10,aj 93 3,ep 94 93,ao 95 8 94,aj 96 95,aa 97 0,aQ 98 1 96 97,aj 99 98,aQ 100 1 91 92,bU 1 100 99]]),ab [aH 101 .add 81 1,aa 81 101]]
def pN:SF:=⟨ae [ab [aj 11 1,aa 12 0,((some 13),.op (.bV 1 1 [(.val (.int .i64 0))] [(0,(.tmp 12))])),gY 14 1 8 11 13,bU 1 1 14],ab [aj 15 1,aN 16 15,aa 6 16],ab [aj 17 2,aa 18 0,aa 19 6,aQ 20 1 17 18,bU 1 20 19],ae [ab [aj 21 3,ep 22 21,ao 23 9 22,aj 24 23,aa 25 0,aQ 26 1 24 25,aj 27 26,aN 28 27,aS 29 0],b6 0 nK],ae [ab [aj 70 2,aa 71 0,aQ 72 1 70 71,aj 73 72,aa 74 6,aV 75 .neq 73 74],bf 75 (.ret)],ae [ab [aj 76 1,aa 77 6,aH 78 .sub 77 1,((some 79),.op (.slice 1 (.tmp 76) (some (.tmp 78)) none)),aN 80 79,aS 81 0],b6 2 nO],ab [aj 102 1,aa 103 6,aH 104 .sub 103 1,((some 105),.op (.slice 1 (.tmp 102) none (some (.tmp 104)))),bU 1 1 105]],
 [],106⟩
theorem uS:aR Tryz.prog 122 []=some pN:=by kernel_rfl
def p7:SC :=
 ae [ab [aV 19 .lss 18 17],bY 19 (.exit 0),.block 1 (ae [ab [aa 20 18,aa 5 20],ab [aj 21 2,aa 22 5,aQ 23 1 21 22,aj 24 23,aH 25 .eql 24 0],bf 25 (ab [aj 26 4,aa 27 5,((some 28),.call (.tmp 26) [(.tmp 27)])])]),ab [aH 29 .add 18 1,aa 18 29]]
def r6:SF:=⟨ae [ab [cI 1 0],ab [aj 6 1,ep 7 6,ao 8 7 7,aj 9 8,aN 10 9,((some 11),.op (.make 1 8 [(.val (.int .i64 0))] (.tmp 10) (.tmp 10))),((some 2),.op (.alloc [(.emp 1)])),bU 1 2 11],ab [((some 3),.op (.alloc [(.emp 1)]))],ab [((some 4),.op (.alloc [(.val .nilFunc)]))],ab [((some 12),.op (.s9 122 [] [(.tmp 3),(.tmp 2),(.tmp 1),(.tmp 4)])),bU 1 4 12],ab [aj 13 1,ep 14 13,ao 15 7 14,aj 16 15,aN 17 16,aS 18 0],b6 0 p7],
 [],30⟩
theorem xG:aR Tryz.prog 75 [1]=some r6:=by kernel_rfl
abbrev fF (l:List Nat):List (List V):=l.map fun (z:Nat)=>[gi (z:Int)]
structure CV where
 (qs qd qv W d s e:Nat)
 (f0 f1 f2 f3 f4 f5 f6 f7:V)
 us:List V
 H0:View
def CV.fn (c:CV):V:=.fn 122 [] [.ptr c.qs 0 0,.ptr c.qd 0 0,.aJ [.ptr c.W 0 0] 0,.ptr c.qv 0 0]
structure Dp (c:CV) (n:Nat) (E:Nat→List Nat):Prop where
 kY:c.H0 c.qd=.arr 1 [[.sl c.d 0 n 1]]
 x6:c.H0 c.qv=.arr 1 [[c.fn]]
 hW:c.H0 c.W=.arr 10 [[c.f0,c.f1,c.f2,c.f3,c.f4,c.f5,c.f6,c.f7,.sl c.s 0 n 1,.sl c.e 0 n 1]]
 he:c.H0 c.e=.arr 1 (c.us.map fun u=>[u])
 hl:c.us.length=n
 hu:∀ x,x < n→aX c.H0 (c.us.getD x .any) 1 (fF (E x))
 hE:∀ x,x < n→(E x).length≤1000000000∧∀ y∈E x,y < n
 live:c.H0 c.qs≠.dead∧c.H0 c.d≠.dead∧c.H0 c.s≠.dead
 ne:c.qs≠c.d∧c.qs≠c.s∧c.d≠c.s
 wO:∀ id,(id=c.qd∨id=c.qv∨id=c.W∨id=c.e∨∃ x,x < n∧owner (c.us.getD x .any)=some id)→id≠c.qs∧id≠c.d∧id≠c.s
structure mw (c:CV) (n:Nat) (H:View) (Dl:List Int) (St:List Nat) (Sl:List BV) (u:V):Prop where
 dl:Dl.length=n
 sl:Sl.length=n
 hd:H c.d=.arr 1 (bE Dl)
 hs:H c.s=.arr 1 (dL Sl)
 hq:H c.qs=.arr 1 [[u]]
 own:aX H u 1 (fF St)
 new:∀ id,owner u=some id→c.H0 id=.dead
 keep:∀ id,c.H0 id≠.dead→id≠c.qs→id≠c.d→id≠c.s→H id=c.H0 id
def dF (l:List Int):Nat→Int:=fun z=>l.getD z 0
def sF (l:List BV):Nat→BV:=fun z=>l.getD z 0
theorem CO {l:List Int} {x:Nat} {v:Int} (h:x < l.length):dF (l.set x v)=jV (dF l) x v:=by
 funext z
 simp only[dF,jV,fj]
 by_cases e:x=z
 ·subst e; simp[h]
 ·rw[Xd (fun h=>e h.1),Xd (fun h=>e h.symm)]
theorem Ii {l:List BV} {x:Nat} {v:BV} (h:x < l.length):sF (l.set x v)=jV (sF l) x v:=by
 funext z
 simp only[sF,jV,fj]
 by_cases e:x=z
 ·subst e; simp[h]
 ·rw[Xd (fun h=>e h.1),Xd (fun h=>e h.symm)]
section
variable {c:CV} {n:Nat} {E:Nat→List Nat} {H:View} {Dl:List Int} {St:List Nat} {Sl:List BV} {u:V}
theorem mw.MN (h:mw c n H Dl St Sl u) (a:Dp c n E) {Dl':List Int} (hl:Dl'.length=n):mw c n (H.set c.d (.arr 1 (bE Dl'))) Dl' St Sl u:=by
 obtain ⟨n1,l,g⟩:=a.ne
 refine ⟨hl,h.sl,by simp[View.set],?_,?_,?_,h.new,fun id h1 i b j=>?_⟩
 ·simp only[View.set]; rw[Xd (Ne.symm g)]; exact h.hs
 ·simp only[View.set]; rw[Xd n1]; exact h.hq
 ·rcases h.own with k | ⟨m,f,k2⟩
  ·exact .inl k
  ·refine .inr ⟨m,f,?_⟩
   simp only[View.set]
   rw[Xd (fun e=>a.live.2.1 (by rw[← e]; exact h.new m (by rw[f]; rfl)))]; exact k2
 ·simp only[View.set]; rw[Xd b]; exact h.keep id h1 i b j
theorem mw.Ac (h:mw c n H Dl St Sl u) (a:Dp c n E) {Sl':List BV} (hl:Sl'.length=n):mw c n (H.set c.s (.arr 1 (dL Sl'))) Dl St Sl' u:=by
 obtain ⟨n1,f,g⟩:=a.ne
 refine ⟨h.dl,hl,?_,by simp[View.set],?_,?_,h.new,fun id h1 i j b=>?_⟩
 ·simp only[View.set]; rw[Xd g]; exact h.hd
 ·simp only[View.set]; rw[Xd f]; exact h.hq
 ·rcases h.own with k | ⟨m,d,k2⟩
  ·exact .inl k
  ·refine .inr ⟨m,d,?_⟩
   simp only[View.set]
   rw[Xd (fun e=>a.live.2.2 (by rw[← e]; exact h.new m (by rw[d]; rfl)))]; exact k2
 ·simp only[View.set]; rw[Xd b]; exact h.keep id h1 i j b
theorem mw.live (h:mw c n H Dl St Sl u) {id:Nat} (a:c.H0 id≠.dead):H id≠.dead:=by
 by_cases b:id=c.qs
 ·rw[b,h.hq]; simp
 ·by_cases e:id=c.d
  ·rw[e,h.hd]; simp
  ·by_cases f:id=c.s
   ·rw[f,h.hs]; simp
   ·rw[h.keep id a b e f]; exact a
theorem mw.push (h:mw c n H Dl St Sl u) (d:Dp c n E) {q x:Nat} (hq:H q=.dead) {o:c6} {b:V} {f:View} (p:aX f b 1 (fF St ++ [[gi (x:Int)]])) (r:Left (H.set q o) f u b):mw c n (f.set c.qs (.arr 1 [[b]])) Dl (St ++ [x]) Sl b:=by
 obtain ⟨n1,s,w⟩:=d.ne
 have a:∀ id,c.H0 id≠.dead→f id=H id∧owner b≠some id:=fun id j=>by
  have h1:=h.live j
  have i:id≠q:=fun e=>h1 (by rw[e]; exact hq)
  have hs:(H.set q o) id=H id:=by simp only[View.set]; rw[Xd i]
  have:=r id (by rw[hs]; exact h1) (fun e=>j (h.new id e))
  rw[hs] at this; exact this
 refine ⟨h.dl,h.sl,?_,?_,by simp[View.set],?_,fun id h1=>?_,fun id h1 g t v=>?_⟩
 ·simp only[View.set]; rw[Xd (Ne.symm n1),(a _ d.live.2.1).1]; exact h.hd
 ·simp only[View.set]; rw[Xd (Ne.symm s),(a _ d.live.2.2).1]; exact h.hs
 ·have e:fF (St ++ [x])=fF St ++ [[gi (x:Int)]]:=by simp
  rw[e]
  rcases p with k | ⟨m,l,k2⟩
  ·exact .inl k
  ·refine .inr ⟨m,l,?_⟩
   simp only[View.set]
   rw[Xd (fun e=>(a _ d.live.1).2 (by rw[l,← e]; rfl))]; exact k2
 ·exact YI fun g=>(a id g).2 h1
 ·simp only[View.set]; rw[Xd g,(a id h1).1]; exact h.keep id h1 g t v
theorem mw.at (h:mw c n H Dl St Sl u) (a:Dp c n E):H c.qd=.arr 1 [[.sl c.d 0 n 1]]∧H c.qv=.arr 1 [[c.fn]]∧H c.W=.arr 10 [[c.f0,c.f1,c.f2,c.f3,c.f4,c.f5,c.f6,c.f7,.sl c.s 0 n 1,.sl c.e 0 n 1]]∧H c.e=.arr 1 (c.us.map fun u=>[u]):=by
 have k:∀ id,(id=c.qd∨id=c.qv∨id=c.W∨id=c.e∨∃ x,x < n∧owner (c.us.getD x .any)=some id)→c.H0 id≠.dead→H id=c.H0 id:=fun id h1 b=>h.keep id b (a.wO id h1).1 (a.wO id h1).2.1 (a.wO id h1).2.2
 refine ⟨?_,?_,?_,?_⟩
 ·rw[k c.qd (by simp) (by rw[a.kY]; simp),a.kY]
 ·rw[k c.qv (by simp) (by rw[a.x6]; simp),a.x6]
 ·rw[k c.W (by simp) (by rw[a.hW]; simp),a.hW]
 ·rw[k c.e (by simp) (by rw[a.he]; simp),a.he]
theorem Dp.WZ (a:Dp c n E):(c.qd≠c.qs∧c.qd≠c.d∧c.qd≠c.s)∧(c.qv≠c.qs∧c.qv≠c.d∧c.qv≠c.s)∧(c.W≠c.qs∧c.W≠c.d∧c.W≠c.s)∧(c.e≠c.qs∧c.e≠c.d∧c.e≠c.s)∧(c.d≠c.qs∧c.s≠c.qs∧c.d≠c.s∧c.s≠c.d) :=
 ⟨a.wO _ (by simp),a.wO _ (by simp),a.wO _ (by simp),a.wO _ (by simp),Ne.symm a.ne.1,Ne.symm a.ne.2.1,a.ne.2.2,Ne.symm a.ne.2.2⟩
theorem mw.row (h:mw c n H Dl St Sl u) (b:Dp c n E) {x:Nat} (d:x < n):aX H (c.us.getD x .any) 1 (fF (E x)):=by
 rcases b.hu x d with k | ⟨m,e,k2⟩
 ·exact .inl k
 ·refine .inr ⟨m,e,?_⟩
  have a:=b.wO m (.inr (.inr (.inr (.inr ⟨x,d,by rw[e]; rfl⟩))))
  rw[h.keep m (by rw[k2]; simp) a.1 a.2.1 a.2.2]; exact k2
end
theorem BC {l:List Nat} {i y:Nat} (h:l[i]?=some y):(fF l).getD i []=[gi (y:Int)]:=by
 simp[Xb,h]
theorem PA (a b:Int):(if b < a then b else a)=min a b:=by split <;> omega
theorem oF {l:List Int} {i:Nat} (h:i < l.length):(bE l).getD i []=[gi (dF l i)]:=by
 simp[dF,Xb,h]
theorem pz {l:List BV} {i:Nat} (h:i < l.length):(dL l).getD i []=[gw (sF l i)]:=by
 simp[sF,Xb,h]
theorem UJ {l:List V} {i:Nat} (h:i < l.length):(l.map fun u=>[u]).getD i []=[l.getD i .any]:=by
 simp[Xb,h]
theorem Ji {id off k m:Nat} (hm:m≤k):dx 1 (.sl id off k 1) (some (gi m)) none=some (.sl id (off+m) (k - m) 1,.none,[]):=by
 simp[dx,bound,asNat,hm]
theorem HM {id off k m:Nat} (hm:m≤k):dx 1 (.sl id off k 1) none (some (gi m))=some (.sl id off m 1,.none,[]):=by
 simp[dx,bound,asNat,hm]
def G0 (n:Nat) (D:Nat→Int):Nat:=((List.range n).filter fun z=>decide (D z=0)).length
theorem filter_le {α:Type} {p q:α→Bool} : ∀ {l:List α},(∀ x∈l,p x=true→q x=true)→(l.filter p).length≤(l.filter q).length
 | [],_=>Xo _
 | a :: l,h=>by
  have b:=filter_le (p:=p) (q:=q) (l:=l) fun x c=>h x (by simp[c])
  have d:=h a (by simp)
  rw[Y7,Y7]
  cases hp:p a with
  | true=>rw[d hp]; simp; exact b
  | false =>
   cases hq:q a with
   | true=>simp; omega
   | false=>simpa using b
theorem filter_lt {α:Type} {p q:α→Bool} : ∀ {l:List α},(∀ x∈l,p x=true→q x=true)→(∃ x∈l,p x=false∧q x=true)→(l.filter p).length < (l.filter q).length
 | [],_,⟨x,h,_⟩=>by simp at h
 | a :: l,h,⟨x,b,d,k2⟩=>by
  have f:=h a (by simp)
  rw[Y7,Y7]
  rcases Xs.1 b with rfl | b
  ·have:=filter_le (p:=p) (q:=q) (l:=l) fun y c=>h y (by simp[c])
   rw[d,k2]; simp; omega
  ·have e:=filter_lt (p:=p) (q:=q) (l:=l) (fun y c=>h y (by simp[c])) ⟨x,b,d,k2⟩
   cases hp:p a with
   | true=>rw[f hp]; simp; exact e
   | false =>
    cases hq:q a with
    | true=>simp; omega
    | false=>simpa using e
theorem IF {n:Nat} {D D':Nat→Int} (h:∀ z,D z≠0→D' z≠0) {x:Nat} (b:x < n) (c:D x=0) (h1:D' x≠0):G0 n D' < G0 n D :=
 filter_lt (fun z _ a=>by
  simp only[Xr] at a ⊢
  exact Yj fun k=>h z k a) ⟨x,XU.2 b,by simp[h1],by simp[c]⟩
theorem RB {c:CV} {n:Nat} {E:Nat→List Nat} (f:Dp c n E) (hn:n≤100000) (S0:Nat→BV):∀ (m:Nat) (H:View) (Dl:List Int) (St:List Nat) (Sl:List BV) (x:Nat),G0 n (dF Dl)≤m→(∃ u,mw c n H Dl St Sl u)→pE n E S0 (dF Dl) St (sF Sl)→x < n→dF Dl x=0 →
  aw Tryz.prog 122 [gi x,.ptr c.qs 0 0,.ptr c.qd 0 0,.aJ [.ptr c.W 0 0] 0,.ptr c.qv 0 0] H fun _ H'=>∃ (Dl':List Int) (L:List Nat) (Sl':List BV),(∃ u,mw c n H' Dl' L Sl' u)∧zC n E S0 (dF Dl) St (sF Sl) x (dF Dl') L (sF Sl'):=by
 intro m
 induction m with
 | zero =>
  intro H Dl St Sl x hm _ _ o h0
  have:=IF (n:=n) (D:=dF Dl) (D':=fun _=>1) (fun _ _=>by simp) o h0 (by simp)
  omega
 | succ m ih =>
 rintro H Dl St Sl x hm ⟨u,hJ⟩ hG o h0
 have Q:∀ x,x < n→∀ y∈E x,y < n:=fun x o=>(f.hE x o).2
 have M:(n:Int) < eX:=by unfold eX; omega
 have a6:=gO.start M hG o h0
 have bd:=Cm a6.g.nd a6.g.lt
 simp only[XV,Xt,XN] at bd
 refine aw.cut (K:=fun _ H'=>(∃ (Dl':List Int) (L:List Nat) (Sl':List BV),(∃ u,mw c n H' Dl' L Sl' u)∧zC n E S0 (dF Dl) St (sF Sl) x (dF Dl') L (sF Sl'))∨∃ (Dl':List Int) (Sl':List BV) (st:Nat) (rest:List (List V)),Dl'.length=n∧Sl'.length=n∧H' c.d=.arr 1 (bE Dl')∧H' c.s=.arr 1 (dL Sl') ∧
  H' c.qs=.arr 1 [[.sl st 0 St.length 1]]∧H' st=.arr 1 (fF St ++ rest)∧c.H0 st=.dead∧(∀ id,c.H0 id≠.dead→id≠c.qs→id≠c.d→id≠c.s→H' id=c.H0 id)∧zC n E S0 (dF Dl) St (sF Sl) x (dF Dl') St (sF Sl')) ?_ ?_
 rotate_left
 ·rintro r H' (h | ⟨Dl',Sl',st,rest,R,k2,k3,k4,k5,k6,k7,k8,k9⟩)
  ·exact .inl h
  ·have B:∀ id,c.H0 id≠.dead→id≠st:=fun id h e=>h (by rw[e]; exact k7)
   refine .inr ⟨st,1,fF St,rest,k6,Dl',St,Sl',⟨.sl st 0 St.length 1,R,k2,?_,?_,?_,.inr ⟨st,by simp,by simp[View.set]⟩,fun id h=>?_,fun id h1 h2 h3 h4=>?_⟩,k9⟩
   ·simp only[View.set]; rw[Xd (B _ f.live.2.1)]; exact k3
   ·simp only[View.set]; rw[Xd (B _ f.live.2.2)]; exact k4
   ·simp only[View.set]; rw[Xd (B _ f.live.1)]; exact k5
   ·simp only[owner,Xe] at h; rw[← h]; exact k7
   ·simp only[View.set]; rw[Xd (B _ h1)]; exact k8 id h1 h2 h3 h4
 refine aw.of mixed uS ?_
 obtain ⟨N,a2,a3,a4⟩:=hJ.at f
 have hq:=hJ.hq
 have ca:cH u=some St.length:=by rw[hJ.own.len,Xj]
 simp (disch:=omega)only[↓wr,seval,wq,pN,hq]
 intro q kY
 simp (disch:=omega)only[↓wr,seval,wq,bT]
 refine iQ (hJ.own.fresh kY) (by simp[aO]) (by unfold aB; simp; omega) (by unfold aB; simp; omega) ?_
 intro u2 H2 o2 l2
 have hlen:(fF St ++ [[gi (x:Int)]]).length=St.length+1:=by simp
 obtain ⟨st,bl,_⟩:=o2.sl (by rw[hlen]; omega)
 rw[hlen] at bl
 subst bl
 have O:=hJ.push f kY o2 l2
 have bn:H2 c.qs=.arr 1 [[u]]:=by
  have B:c.qs≠q:=fun e=>hJ.live f.live.1 (by rw[e]; exact kY)
  have hs:(H.set q (.arr 1 [[gi (x:Int)]])) c.qs=H c.qs:=by simp only[View.set]; rw[Xd B]
  have:=(l2 c.qs (by rw[hs,hq]; simp) (fun e=>f.live.1 (hJ.new _ e))).1
  rw[this,hs,hq]
 obtain ⟨⟨m1,m2,m3⟩,⟨m4,m5,m6⟩,⟨m7,m8,m9⟩,⟨m10,m11,m12⟩,m13,m14,m15,m16⟩:=f.WZ
 obtain ⟨b1,b2,b3,b4⟩:=O.at f
 have b5:=O.hd
 simp only[View.set,Xd m1] at b1
 simp only[View.set,Xd m7] at b3
 simp only[View.set,Xd m10] at b4
 simp only[View.set,Xd m13] at b5
 have cc:=O.dl
 have bq:(bE Dl).set x [gi ((St.length:Int)+1)]=bE (Dl.set x ((St.length:Int)+1)):=ints_set _ _ _
 have a7:(bE Dl).set x [gi ((St.length+1:Nat):Int)]=bE (Dl.set x ((St.length:Int)+1)):=ints_set _ _ _
 have hex:=UJ (l:=c.us) (i:=x) (by rw[f.hl]; exact o)
 have cf:cH (c.us.getD x .any)=some (E x).length:=by rw[(f.hu x o).len,Xj]
 have cV:=f.hl
 simp (disch:=omega)only[↓wr,seval,wq,bn,b1,b3,b4,b5,m1,m2,m7,m8,m10,m11,m13,bq,a7,oF (l:=Dl) (i:=x) (by omega),hex,cf]
 refine ⟨o,by omega,o,by omega,?_⟩
 refine aU.up (E x).length (fun i T H'=>∃ (Dl':List Int) (b:List Nat) (Sl':List BV) (st:Nat),mw c n H' Dl' (St ++ x :: b) Sl' (.sl st 0 (St ++ x :: b).length 1)∧gO n E S0 (dF Dl) St (sF Sl) x ((E x).take i) (dF Dl') b (sF Sl')∧T 0=gi x∧T 1=.ptr c.qs 0 0∧T 2=.ptr c.qd 0 0∧T 3=.aJ [.ptr c.W 0 0] 0∧T 4=.ptr c.qv 0 0∧T 6=gi ((St.length+1:Nat):Int)∧T 27=c.us.getD x .any∧T 28=gi (E x).length∧T 29=gi i)
  ⟨Dl.set x ((St.length:Int)+1),[],Sl,st,by simpa using O.MN f (Dl':=Dl.set x ((St.length:Int)+1)) (by simp[cc]),by rw[CO (by omega)]; exact a6,rfl,rfl,rfl,rfl,rfl,rfl,rfl,rfl,rfl⟩ ?_
 clear b1 b2 b3 b4 b5 O bn kY l2 o2 ca hq N a2 a3 a4
 rintro i k T H' hk ⟨Dl',b,Sl',st,a,J,t0,t1,t2,t3,t4,t6,t27,t28,t29⟩
 have da:=(f.hE x o).1
 have c3:=a.dl
 have c5:=a.sl
 obtain ⟨N,a2,a3,a4⟩:=a.at f
 simp (disch:=omega)only[↓wr,seval,wq,nK,t0,t1,t2,t3,t4,t6,t27,t28,t29]
 apply ah.dec<;>intro hc
 ·have hy:(E x)[i]?=some ((E x)[i]'(by omega)):=Xc (by omega)
  have S:=Xm (show i < (E x).length by omega)
  have G:(E x).take (i+1)=(E x).take i ++ [(E x)[i]'(by omega)]:=by rw[XH,hy]; rfl
  generalize (E x)[i]'(by omega)=y at hy S G
  have cg:=BC hy
  have A:=Q x o y S
  obtain ⟨id,hu,ch⟩:=(a.row f o).sl (by simp; omega)
  rw[Xj] at hu
  simp (disch:=omega)only[↓wr,seval,wq,t0,t1,t2,t3,t4,t6,t27,t28,t29,hu,ch,cg,N,a.hd,oF (l:=Dl') (i:=y) (by omega)]
  refine ⟨by omega,by first | omega | (simp; omega),A,by omega,?_⟩
  apply ah.eq<;>intro hz
  ·have db:=IF (n:=n) (D:=dF Dl) (D':=dF Dl') (fun z hz=>by rw[(J.old z hz).1]; exact hz) o h0 (by have:=J.own.1; omega)
   simp (disch:=omega)only[↓wr,seval,wq,t4,t6,a2,CV.fn]
   refine ay.dZ ((ih H' Dl' (St ++ x :: b) Sl' y (by omega) ⟨_,a⟩ J.g A hz).mono ?_)
   rintro r H5 ⟨p,dj,t,⟨u5,C⟩,hV⟩
   obtain ⟨T5,rfl,a8⟩:=J.Cb Q M o h0 S hz hV
   obtain ⟨cj,br,_⟩:=C.own.sl (by simp; omega)
   rw[Xj] at br
   subst br
   obtain ⟨N,a2,a3,a4⟩:=C.at f
   have bs:=C.dl
   have bx:=C.sl
   have e1:(bE p).set x [gi (min (dF p x) (dF p y))]=bE (p.set x (min (dF p x) (dF p y))):=ints_set _ _ _
   have e2:(dL t).set x [gw (sF t x ||| sF t y)]=dL (t.set x (sF t x ||| sF t y)):=by simp[YL]
   simp (disch:=omega)only[↓wr,seval,wq,t0,t1,t2,t3,t4,t6,t27,t28,t29,N,a3,C.hd,C.hs,oF (l:=p) (i:=x) (by omega),oF (l:=p) (i:=y) (by omega),pz (l:=t) (i:=x) (by omega),pz (l:=t) (i:=y) (by omega),PA,e1,e2,m1,m2,m3,m7,m8,m9,m13,m14,m15,m16,Ec]
   refine ⟨o,by omega,A,by omega,o,by omega,o,by omega,A,by omega,o,by omega,?_⟩
   exact aF hk (by omega) ⟨p.set x (min (dF p x) (dF p y)),T5,t.set x (sF t x ||| sF t y),cj,(C.MN f (by simp[bs])).Ac f (by simp[bx]),by rw[G,CO (by omega),Ii (by omega)]; exact a8,t0,t1,t2,t3,t4,t6,by first | exact t27 | (rw[hu]; exact t27),t28,rfl⟩
  ·have a8:=J.Sw Q M o h0 S hz
   obtain ⟨N,a2,a3,a4⟩:=a.at f
   have b0:=a.dl
   have b7:=a.sl
   have e1:(bE Dl').set x [gi (min (dF Dl' x) (dF Dl' y))]=bE (Dl'.set x (min (dF Dl' x) (dF Dl' y))):=ints_set _ _ _
   have e2:(dL Sl').set x [gw (sF Sl' x ||| sF Sl' y)]=dL (Sl'.set x (sF Sl' x ||| sF Sl' y)):=by simp[YL]
   simp (disch:=omega)only[↓wr,seval,wq,t0,t1,t2,t3,t4,t6,t27,t28,t29,N,a3,a.hd,a.hs,oF (l:=Dl') (i:=x) (by omega),oF (l:=Dl') (i:=y) (by omega),pz (l:=Sl') (i:=x) (by omega),pz (l:=Sl') (i:=y) (by omega),PA,e1,e2,m1,m2,m3,m7,m8,m9,m13,m14,m15,m16,Ec]
   refine ⟨o,by omega,A,by omega,o,by omega,o,by omega,A,by omega,o,by omega,?_⟩
   exact aF hk (by omega) ⟨Dl'.set x (min (dF Dl' x) (dF Dl' y)),b,Sl'.set x (sF Sl' x ||| sF Sl' y),st,(a.MN f (by simp[b0])).Ac f (by simp[b7]),by rw[G,CO (by omega),Ii (by omega)]; exact a8,t0,t1,t2,t3,t4,t6,by first | exact t27 | (rw[hu]; exact t27),t28,rfl⟩
 ·rw[Xv (by omega)] at J
  simp (disch:=omega)only[↓wr,seval,wq,t0,t1,t2,t6,N,a.hd,oF (l:=Dl') (i:=x) (by omega)]
  refine ⟨o,by omega,?_⟩
  refine ah.ne (fun B=>?_) (fun heq=>?_)
  ·simp (disch:=omega)only[↓wr,seval,wq]
   exact .inl ⟨Dl',St ++ x :: b,Sl',⟨_,a⟩,J.keep (by omega)⟩
  ·have hq:=a.hq
   have e3:((St.length+1:Nat):Int) - 1=(St.length:Int):=by omega
   have ck:(St ++ x :: b).length=St.length+(x :: b).length:=XV
   have U:H' st=.arr 1 (fF (St ++ x :: b)):=by
    rcases a.own with ⟨R,k2,k3⟩ | ⟨w,R,k2⟩
    ·simp at k3
    ·simp only[V.sl.injEq] at R
     rw[R.1]; exact k2
   have F:=a.new st rfl
   have b8:dx 1 (.sl st 0 (St ++ x :: b).length 1) (some (gi (St.length:Int))) none=some (.sl st St.length (x :: b).length 1,.none,[]):=by
    rw[Ji (by omega),ck]
    congr 3 <;> omega
   have cu:dx 1 (.sl st 0 (St ++ x :: b).length 1) none (some (gi (St.length:Int)))=some (.sl st 0 St.length 1,.none,[]):=HM (by omega)
   have c9:=Cm J.g.nd J.g.lt
   have cv:=J.fresh M hG
   have b9:=J.pop Q M o cv (by omega)
   simp (disch:=omega)only[↓wr,seval,wq,t0,t1,t2,t3,t6,hq,e3,b8]
   refine aU.up (b.length+1) (fun j T H'=>∃ (Dj:List Int) (I:List BV),mw c n H' Dj (St ++ x :: b) I (.sl st 0 (St ++ x :: b).length 1)∧dF Dj=(fun z=>if z∈(x :: b).take j then eX else dF Dl' z)∧sF I=(fun z=>if z∈(x :: b).take j then sF Sl' x else sF Sl' z) ∧
    T 0=gi x∧T 1=.ptr c.qs 0 0∧T 2=.ptr c.qd 0 0∧T 3=.aJ [.ptr c.W 0 0] 0∧T 6=gi ((St.length+1:Nat):Int)∧T 79=.sl st St.length (b.length+1) 1∧T 80=gi ((b.length+1:Nat):Int)∧T 81=gi j) ⟨Dl',Sl',a,by simp,by simp,t0,t1,t2,t3,t6,rfl,rfl,rfl⟩ ?_
   clear t0 t1 t2 t3 t4 t6 t27 t28 t29 N a2 a3 a4 hq U a b8
   rintro j k2 T H6 cA ⟨Dj,I,v,bb,X,t0,t1,t2,t3,t6,t79,t80,t81⟩
   obtain ⟨N,a2,a3,a4⟩:=v.at f
   have U:H6 st=.arr 1 (fF (St ++ x :: b)):=by
    rcases v.own with ⟨R,k2,k3⟩ | ⟨w,R,k2⟩
    ·simp at k3
    ·simp only[V.sl.injEq] at R
     rw[R.1]; exact k2
   have an:=v.dl
   have aq:=v.sl
   simp (disch:=omega)only[↓wr,seval,wq,nO,t0,t1,t2,t3,t6,t79,t80,t81]
   apply ah.dec<;>intro cC
   ·have Y:j < (x :: b).length:=by simp; omega
    have hy:(x :: b)[j]?=some ((x :: b)[j]'Y):=Xc Y
    have G:(x :: b).take (j+1)=(x :: b).take j ++ [(x :: b)[j]'Y]:=by rw[XH,hy]; rfl
    generalize (x :: b)[j]'Y=y at hy G
    have A:=J.g.lt y (YT _ (Xi hy))
    have cN:(fF (St ++ x :: b)).getD (St.length+j) []=[gi (y:Int)]:=BC (by rw[XP (by omega),Nat.add_sub_cancel_left]; exact hy)
    have cS:sF I x=sF Sl' x:=by rw[X]; simp only; split <;> rfl
    have e1:(bE Dj).set y [gi 1073741824]=bE (Dj.set y eX):=ints_set _ _ _
    have e2:(dL I).set y [gw (sF I x)]=dL (I.set y (sF I x)):=by simp[YL]
    simp (disch:=omega)only[↓wr,seval,wq,t0,t1,t2,t3,t6,t79,t80,t81,U,cN,N,a3,v.hd,v.hs,oF (l:=Dj) (i:=y) (by omega),pz (l:=I) (i:=x) (by omega),pz (l:=I) (i:=y) (by omega),e1,e2,m1,m2,m3,m7,m8,m9,m13,m14,m15,m16]
    refine ⟨by omega,by omega,A,by omega,o,by omega,A,by omega,?_⟩
    have ar:∀ z,z∈(x :: b).take (j+1)↔z=y∨z∈(x :: b).take j:=fun z=>by rw[G,XE,X8]; exact Or.comm
    refine aF cA (by omega) ⟨Dj.set y eX,I.set y (sF I x),(v.MN f (by simp[an])).Ac f (by simp[aq]),?_,?_,t0,t1,t2,t3,t6,t79,t80,rfl⟩
    ·rw[CO (by omega),bb]
     funext z
     simp only[jV,ar]
     by_cases P:z=y
     ·rw[Xg P,Xg (.inl P)]
     ·by_cases Z:z∈(x :: b).take j
      ·rw[Xd P,Xg Z,Xg (.inr Z)]
      ·rw[Xd P,Xd Z,Xd (fun h=>h.elim P Z)]
    ·rw[Ii (by omega),cS,X]
     funext z
     simp only[jV,ar]
     by_cases P:z=y
     ·rw[Xg P,Xg (.inl P)]
     ·by_cases Z:z∈(x :: b).take j
      ·rw[Xd P,Xg Z,Xg (.inr Z)]
      ·rw[Xd P,Xd Z,Xd (fun h=>h.elim P Z)]
   ·have hj:j=b.length+1:=by omega
    rw[Xv (by simp; omega)] at bb X
    simp (disch:=omega)only[↓wr,seval,wq,t1,t6,v.hq,e3,cu]
    refine .inr ⟨Dj,I,st,fF (x :: b),an,aq,?_,?_,?_,?_,F,fun id h1 h2 h3 h4=>?_,by rw[bb,X]; exact b9⟩
    ·show (H6.set c.qs _) c.d=_
     simp only[View.set]; rw[Xd m13]; exact v.hd
    ·show (H6.set c.qs _) c.s=_
     simp only[View.set]; rw[Xd m14]; exact v.hs
    ·simp[View.set]
    ·show (H6.set c.qs _) st=_
     simp only[View.set]; rw[Xd (fun e=>f.live.1 (by rw[← e]; exact F)),U]; exact YA (c6.arr 1) XD
    ·show (H6.set c.qs _) id=_
     simp only[View.set]; rw[Xd h2]; exact v.keep id h1 h2 h3 h4
def fU:SC :=
 ae [ab [aV 9 .lss 8 7],bY 9 (.exit 0),.block 1 (ae [ab [aa 10 8,aa 5 10],ab [aa 11 1,aa 12 0,aa 13 5,aQ 14 2 12 13,bg 15 2 14,((some 16),.call (.tmp 11) [(.tmp 15)])],bf 16 (ae [ab [aa 17 5,aa 4 17],.ret])]),ab [aH 18 .add 8 1,aa 8 18]]
def gg:SF:=⟨ae [ab [aS 4 0],ae [ab [aa 6 0,aN 7 6,aS 8 0],b6 0 fU],ab [aS 4 (-1)],.ret],
 [.tmp 4],19⟩
theorem jR:aR Tryz.prog 68 []=some gg:=by kernel_rfl
def ye:SF:=⟨ae [ab [cI 2 0,bu 3 false],ab [ao 4 0 2,aj 5 4,aj 6 1,aV 7 .eql 5 6,aa 3 7],.ret],
 [.tmp 3],8⟩
theorem BQ:aR Tryz.prog 69 [2]=some ye:=by kernel_rfl
def yk:SC :=
 ae [ab [aV 24 .lss 23 22],bY 24 (.exit 0),.block 1 (ae [ab [aQ 25 1 21 23,aj 26 25,((some 10),.op (.alloc [(.val (.int .i64 0))])),bU 1 10 26],ab [aa 27 0,aa 28 8,aQ 29 2 27 28,ao 30 1 29,aj 31 30,((some 32),.op (.s9 69 [] [(.tmp 10)])),bz 33 68 [31,32],aa 11 33],ae [ab [aa 34 11,aH 35 .lss 34 0],bf 35 (ae [ab [aS 6 0,bu 7 false],.ret])],ab [aa 36 0,aa 37 8,aQ 38 2 36 37,ao 39 1 38,aj 40 39,aa 41 11,aQ 42 2 40 41,ao 43 1 42,aj 44 43,aa 8 44],.region false [⟨none,[aa 45 8,aH 46 .lss 45 0,aa 47 46]⟩,⟨(some (47,false)),[aa 48 8,aa 49 0,aN 50 49,aV 51 .geq 48 50]⟩,⟨none,[cz 52 47 51]⟩],bf 52 (ae [ab [aS 6 0,bu 7 false],.ret])]),ab [aH 53 .add 23 1,aa 23 53]]
def AX:SF:=⟨ae [ab [aS 6 0,bu 7 false],ab [aa 12 1,aa 8 12],ae [.region false [⟨none,[aa 13 8,aH 14 .lss 13 0,aa 15 14]⟩,⟨(some (15,false)),[aa 16 8,aa 17 0,aN 18 17,aV 19 .geq 16 18]⟩,⟨none,[cz 20 15 19]⟩],bf 20 (ae [ab [aS 6 0,bu 7 false],.ret])],ae [ab [aa 21 2,aN 22 21,aS 23 0],b6 0 yk],ab [aa 54 8,aa 6 54,bu 7 true],.ret],
 [.tmp 6,.tmp 7],55⟩
theorem ED:aR Tryz.prog 28 []=some AX:=by kernel_rfl
theorem My (l:List bX) (hl:aL l) (f:FuncId) (cap:List V) (p:bX→Bool) (H:View) (g:∀ x∈l,aw Tryz.prog f (.agg (jq x) :: cap) H fun r H'=>r=gb (p x)∧H'=H) :
  aw Tryz.prog 68 [.aE (fc l),.fn f [] cap] H fun r H'=>r=gi (cG p l 0)∧H'=H:=by
 refine aw.of mixed jR ?_
 unfold aL at hl
 simp (disch:=omega)only[↓wr,seval,wq,gg,fc]
 refine aU.up l.length (fun i T H'=>H=H'∧cG p (l.drop i) i=cG p l 0∧T 0=.aE (l.map jq)∧T 1=.fn f [] cap∧T 7=gi l.length∧T 8=gi i) ⟨rfl,rfl,rfl,rfl,rfl,rfl⟩ ?_
 rintro i k T _ hk ⟨rfl,hi,b,h1,c,d⟩
 simp (disch:=omega)only[↓wr,seval,wq,fU,b,h1,c,d]
 apply ah.dec<;>intro h
 ·have e:l[i]?=some (l[i]'(by omega)):=Xc (by omega)
  have hm:l[i]'(by omega)∈l:=Xm _
  rw[fp (show i < l.length by omega)] at hi
  generalize l[i]'(by omega)=x at e hm hi
  simp (disch:=omega)only[↓wr,seval,wq,b,h1,c,d,Xf,e,Xk,jq]
  have a:=g x hm
  simp only[jq] at a
  refine ay.dZ (a.mono ?_)
  rintro r j ⟨rfl,rfl⟩
  simp only[cG] at hi
  simp (disch:=omega)only[↓wr,seval,wq]
  apply ah.split<;>intro hp
  ·simp (disch:=omega)only[↓wr,seval,wq,b,h1,c,d]
   rw[← hi,Xg hp]
  ·simp (disch:=omega)only[↓wr,seval,wq,b,h1,c,d]
   refine aF hk (by omega) ⟨rfl,?_,b,h1,c,rfl⟩
   rw[Xd (by simp[hp])] at hi
   push_cast; exact hi
 ·rw[XK (by omega)] at hi
  simp (disch:=omega)only[↓wr,seval,wq,b,h1,c,d]
  rw[← hi]; rfl
theorem SA (x:bX) (s:Int) (q:Nat) (H:View) (hq:H q=.arr 1 [[gi s]]):aw Tryz.prog 69 [.agg (jq x),.ptr q 0 0] H fun r H'=>r=gb (decide (x.sym=s))∧H'=H:=by
 refine aw.of mixed BQ ?_
 simp (disch:=omega)only[↓wr,seval,wq,ye,jq,hq]
 congr 2
theorem IC (s:Int):∀ (l:List bX) (i:Int),0≤i→(cG (fun e=>decide (e.sym=s)) l i < 0→c7 l s = -1)∧(0≤cG (fun e=>decide (e.sym=s)) l i→∃ (k:Nat) (e:bX),cG (fun e=>decide (e.sym=s)) l i=i+k∧l[k]?=some e∧c7 l s=e.to)
 | [],i,_=>⟨fun _=>rfl,fun h=>by simp[cG] at h⟩
 | x :: l,i,d=>by
  simp only[cG,c7,Xr]
  by_cases h:x.sym=s
  ·rw[Xg h,Xg h]
   exact ⟨fun h=>by omega,fun _=>⟨0,x,by simp,rfl,rfl⟩⟩
  ·rw[Xd h,Xd h]
   obtain ⟨h1,a⟩:=IC s l (i+1) (by omega)
   refine ⟨h1,fun h=>?_⟩
   obtain ⟨k,e,b,k2,c⟩:=a h
   exact ⟨k+1,e,by rw[b]; push_cast; omega,by simpa using k2,c⟩
theorem PF {l:List bX} (h:∀ e∈l,cy e.to) (s:Int):cy (c7 l s):=by
 induction l with
 | nil=>unfold cy; simp[c7]
 | cons e l a =>
  rw[c7]; split
  ·exact h e (by simp)
  ·exact a fun x b=>h x (by simp[b])
theorem Rj (a:List aI) (_:aL a) (he:∀ s∈a,aL s.aG∧∀ e∈s.aG,cy e.sym∧cy e.to) (fr:Int) (syms:List Int) (hs:aL syms):aA Tryz.prog 28 [bj a,gi fr,encI syms] (.bp [gi (eT a fr syms).1,gb (eT a fr syms).2]):=by
 unfold aL at hs
 refine aA.tree (by
  intro v l; simp at l
  rcases l with rfl | rfl | rfl
  ·exact kD _
  ·exact .val _
  ·exact gp _) (Gu (.val _) (.val _)) fun H=>?_
 refine aw.of mixed ED ?_
 unfold eT
 simp (disch:=omega)only[↓wr,seval,wq,AX,bj,encI]
 apply ah.dec<;>intro h1
 ·simp (disch:=omega)only[↓wr,seval,wq]
  rw[Xg (by omega)]
 simp (disch:=omega)only[↓wr,seval,wq,bj]
 apply ah.dec<;>intro t
 ·simp (disch:=omega)only[↓wr,seval,wq]
  rw[Xg (by omega)]
 rw[Xd (by omega)]
 simp (disch:=omega)only[↓wr,seval,wq]
 refine aU.up syms.length (fun i T H'=>∃ at_:Int,0≤at_∧at_ < a.length∧eZ a at_ (syms.drop i)=eZ a fr syms∧T 0=bj a∧T 8=gi at_∧T 21=encI syms∧T 22=gi syms.length∧T 23=gi i) ⟨fr,by omega,by omega,rfl,rfl,rfl,rfl,rfl,rfl⟩ ?_
 rintro i k T H' hk ⟨at_,C,D,hw,t0,t8,t21,t22,t23⟩
 simp (disch:=omega)only[↓wr,seval,wq,yk,t0,t8,t21,t22,t23,encI]
 apply ah.dec<;>intro u
 ·have m:syms[i]?=some (syms[i]'(by omega)):=Xc (by omega)
  rw[XW (show i < syms.length by omega)] at hw
  generalize syms[i]'(by omega)=x at m hw
  have f:a[at_.toNat]?=some (a.getD at_.toNat aM):=getD_some (by omega)
  obtain ⟨b,c⟩:=he _ (Xi f)
  rw[eZ] at hw
  have g:=PF (fun e h=>(c e h).2) x
  generalize a.getD at_.toNat aM=S at f b c hw g
  simp (disch:=omega)only[↓wr,seval,wq,t0,t8,t21,t22,t23,encI,Xf,m,Xk]
  intro q hq
  rw[set_set]
  have d:(H'.set q (.arr 1 [[gi x]])) q=.arr 1 [[gi x]]:=by simp[View.set]
  generalize H'.set q (.arr 1 [[gi x]])=n at d
  simp (disch:=omega)only[↓wr,seval,wq,t0,t8,bj,Xf,f,Xk,fZ]
  refine ay.dZ ((My S.aG b 69 [.ptr q 0 0] (fun e=>decide (e.sym=x)) n (fun e _=>SA e x q n d)).mono ?_)
  rintro r E ⟨rfl,rfl⟩
  obtain ⟨i1,i2⟩:=IC x S.aG 0 (by omega)
  unfold aL at b
  simp (disch:=omega)only[↓wr,seval,wq]
  apply ah.dec<;>intro o
  ·simp (disch:=omega)only[↓wr,seval,wq]
   rw[← hw,i1 o,Xd (by omega)]
  ·obtain ⟨j,e,w,p,y⟩:=i2 (by omega)
   have F:=(Xq.1 p).1
   rw[w]
   have z:((0:Int)+(j:Int))=(j:Int):=by omega
   rw[z]
   rw[y] at hw g
   unfold cy at g
   simp (disch:=omega)only[↓wr,seval,wq,t0,t8,bj,Xf,f,Xk,fZ,fc,p,jq]
   apply ah.dec<;>intro A
   ·simp (disch:=omega)only[↓wr,seval,wq]
    rw[← hw,Xd (by omega)]
   ·simp (disch:=omega)only[↓wr,seval,wq,t0,bj]
    apply ah.dec<;>intro B
    ·simp (disch:=omega)only[↓wr,seval,wq]
     rw[← hw,Xd (by omega)]
    ·simp (disch:=omega)only[↓wr,seval,wq,t0,t21,t22,t23]
     rw[Xg ⟨by omega,by omega⟩] at hw
     exact aF hk (by omega) ⟨e.to,by omega,by omega,hw,t0,rfl,t21,t22,rfl⟩
 ·simp (disch:=omega)only[↓wr,seval,wq,t8]
  rw[XK (by omega),eZ] at hw
  rw[← hw]
theorem pE.start {n:Nat} {E:Nat→List Nat} {S0:Nat→BV} : pE n E S0 (fun _=>0) [] S0 where
 nd:=.nil
 lt:=fun _ h=>by simp at h
 zero:=fun _ _ _=>⟨rfl,by simp⟩
 E4:=fun _ _ h=>by simp[eX] at h
 on:=fun _ _ h=>absurd rfl h
 sound:=fun z t _ h=>⟨z,.refl,h⟩
 base:=fun _ _ _ h=>h
theorem U9 (n:Nat):dF (List.replicate n 0)=fun _=>0:=by
 funext z
 simp only[dF,Xb,YP]
 split <;> rfl
theorem iW {p:Prop} [Decidable p] {k:Nat} {es:List (List V)} {o:c6} (h:(if p then c6.arr k es else o)=.dead):¬ p∧o=.dead:=by
 split at h
 ·simp at h
 ·rename_i hp; exact ⟨hp,h⟩
structure UE (n:Nat) (E:Nat→List Nat) (H:View) (W s e:Nat) (us:List V) (fs:V × V × V × V × V × V × V × V):Prop where
 hW:H W=.arr 10 [[fs.1,fs.2.1,fs.2.2.1,fs.2.2.2.1,fs.2.2.2.2.1,fs.2.2.2.2.2.1,fs.2.2.2.2.2.2.1,fs.2.2.2.2.2.2.2,.sl s 0 n 1,.sl e 0 n 1]]
 he:H e=.arr 1 (us.map fun u=>[u])
 hl:us.length=n
 hu:∀ x,x < n→aX H (us.getD x .any) 1 (fF (E x))
 hE:∀ x,x < n→(E x).length≤1000000000∧∀ y∈E x,y < n
 hw:cH fs.2.2.2.2.2.2.2=some n
 ns:W≠s∧e≠s∧∀ x,x < n→owner (us.getD x .any)≠some s
theorem FA {n:Nat} {E:Nat→List Nat} {H:View} {W s e:Nat} {us:List V} {fs:V × V × V × V × V × V × V × V} (g:UE n E H W s e us fs) (h1:1≤n) (hn:n≤100000) (Sl:List BV) (hs:H s=.arr 1 (dL Sl)) (U:Sl.length=n) :
  aw Tryz.prog 75 [.ptr W 0 0] H fun _ H'=>∃ Sl':List BV,Sl'.length=n∧H' s=.arr 1 (dL Sl')∧(∀ z t,z < n→((sF Sl' z).getLsbD t=true↔lV E (sF Sl) z t))∧∀ id,H id≠.dead→id≠s→H' id=H id:=by
 obtain ⟨f0,f1,f2,f3,f4,f5,f6,f7⟩:=fs
 refine aw.of mixed xG ?_
 have hW:=g.hW
 have hw:=g.hw
 simp only at hW hw
 simp (disch:=omega)only[↓wr,seval,wq,r6,hW,hw]
 refine ⟨⟨by omega,by unfold aB; omega,by unfold aB; omega⟩,fun h0=>by omega,fun _ d X=>?_⟩
 intro o kY A a j x6
 obtain ⟨Y,kY⟩:=iW kY
 obtain ⟨a2,a⟩:=iW a
 rw[Xd a2] at a
 obtain ⟨a3,a⟩:=iW a
 obtain ⟨a4,x6⟩:=iW x6
 obtain ⟨a5,x6⟩:=iW x6
 rw[Xd a5] at x6
 obtain ⟨Z,x6⟩:=iW x6
 have lw:∀ {id k es},H id=.arr k es→id≠d∧id≠o∧id≠A∧id≠j:=fun {id k es} h=>by
  refine ⟨fun e=>?_,fun e=>?_,fun e=>?_,fun e=>?_⟩ <;> rw[e] at h <;> simp_all
 obtain ⟨w1,w2,w3,w4⟩:=lw hW
 obtain ⟨s1,s2,s3,s4⟩:=lw hs
 obtain ⟨e1,e2,e3,e4⟩:=lw g.he
 simp (disch:=omega)only[↓wr,seval,wq,w1,w2,w3,w4,hw]
 generalize b:View.set (View.set _ _ _) j (c6.arr 1 [[V.fn _ _ _]])=H0
 have hk:∀ id,id≠d→id≠o→id≠A→id≠j→H0 id=H id:=fun id B k2 k3 k4=>by
  rw[← b]; simp only[View.set]; rw[Xd k4,Xd k4,Xd k3,Xd k2,Xd k2,Xd B]
 have J:H0 j=.arr 1 [[.fn 122 [] [.ptr A 0 0,.ptr o 0 0,.aJ [.ptr W 0 0] 0,.ptr j 0 0]]]:=by rw[← b]; simp[View.set]
 have v:H0 A=.arr 1 [[.emp 1]]:=by rw[← b]; simp only[View.set]; rw[Xd (Ne.symm a4),Xd (Ne.symm a4)]; simp
 have K:H0 o=.arr 1 [[.sl d 0 n 1]]:=by rw[← b]; simp only[View.set]; rw[Xd (Ne.symm a5),Xd (Ne.symm a5),Xd (Ne.symm a2)]; simp
 have L:H0 d=.arr 1 (bE (List.replicate n 0)):=by rw[← b]; simp only[View.set]; rw[Xd (Ne.symm Z),Xd (Ne.symm Z),Xd (Ne.symm a3),Xd (Ne.symm Y),Xd (Ne.symm Y)]; simp
 clear b
 let c:CV:=⟨A,o,j,W,d,s,e,f0,f1,f2,f3,f4,f5,f6,f7,us,H0⟩
 have an:∀ x,x < n→∀ id,owner (us.getD x .any)=some id→id≠d∧id≠o∧id≠A∧id≠j:=fun x D id w=>by
  rcases g.hu x D with ⟨_,k,k2⟩ | ⟨m,B,k2⟩
  ·rw[k2] at w; simp[owner] at w
  ·rw[B] at w; simp only[owner,Xe] at w
   rw[← w]; exact lw k2
 have M:Dp c n E:={
  kY:=K
  x6:=J
  hW:=by rw[← hW]; exact hk W w1 w2 w3 w4
  he:=by rw[← g.he]; exact hk e e1 e2 e3 e4
  hl:=g.hl
  hu:=fun x D=>by
   rcases g.hu x D with h | ⟨m,B,k2⟩
   ·exact .inl h
   ·refine .inr ⟨m,B,?_⟩
    obtain ⟨F,Q,G,R⟩:=lw k2
    rw[← k2]; exact hk m F Q G R
  hE:=g.hE
  live:=⟨by simp only[c]; rw[v]; simp,by simp only[c]; rw[L]; simp,by simp only[c]; rw[hk s s1 s2 s3 s4,hs]; simp⟩
  ne:=⟨a3,Ne.symm s3,Ne.symm s1⟩
  wO:=fun id h=>by
   obtain ⟨n1,n2,n3⟩:=g.ns
   rcases h with rfl | rfl | rfl | rfl | ⟨x,D,w⟩
   ·exact ⟨Ne.symm a2,Y,Ne.symm s2⟩
   ·exact ⟨a4,Z,Ne.symm s4⟩
   ·exact ⟨w3,w1,n1⟩
   ·exact ⟨e3,e1,n2⟩
   ·obtain ⟨F,Q,G,R⟩:=an x D id w
    exact ⟨G,F,fun e=>n3 x D (by have e2:id=s:=e; rw[← e2]; exact w)⟩ }
 have aq:mw c n H0 (List.replicate n 0) [] Sl (.emp 1):=⟨by simp,U,L,by simp only[c]; rw[hk s s1 s2 s3 s4,hs],v,.nil,fun id h=>by simp[owner] at h,fun id _ _ _ _=>rfl⟩
 refine aU.up n (fun i T H'=>∃ (Dl:List Int) (I:List BV) (u:V),mw c n H' Dl [] I u∧pE n E (sF Sl) (dF Dl) [] (sF I)∧(∀ z,z < i→dF Dl z=eX)∧T 2=.ptr o 0 0∧T 4=.ptr j 0 0∧T 17=gi n∧T 18=gi i) ⟨List.replicate n 0,Sl,.emp 1,aq,by rw[U9]; exact pE.start,fun z C=>by omega,rfl,rfl,rfl,rfl⟩ ?_
 rintro i k T H' N ⟨Dl,I,u,y,S,f,t2,t4,t17,t18⟩
 obtain ⟨b1,b2,b3,b4⟩:=y.at M
 have bd:=y.dl
 have hd:=y.hd
 simp only[c,CV.fn] at b1 b2 hd
 simp (disch:=omega)only[↓wr,seval,wq,p7,t2,t4,t17,t18]
 apply ah.dec<;>intro hc
 ·have hi:i < n:=by omega
  simp (disch:=omega)only[↓wr,seval,wq,t2,t4,t17,t18,b1,hd,oF (l:=Dl) (i:=i) (by omega)]
  refine ⟨hi,by omega,?_⟩
  apply ah.eq<;>intro C
  ·simp (disch:=omega)only[↓wr,seval,wq,t4,b2]
   refine ay.dZ ((RB M hn (sF Sl) (G0 n (dF Dl)) H' Dl [] I i (Xo _) ⟨u,y⟩ S hi C).mono ?_)
   rintro r H5 ⟨ar,bl,a7,⟨u5,a8⟩,hV⟩
   obtain ⟨rfl,O⟩:=hV.top hi
   simp (disch:=omega)only[↓wr,seval,wq,t2,t4,t17,t18]
   refine aF N (by omega) ⟨ar,a7,u5,a8,hV.1,fun z bb=>?_,t2,t4,t17,rfl⟩
   by_cases e:z=i
   ·rw[e]; exact O
   ·have:=f z (by omega)
    rw[(hV.2.1 z (by rw[this]; decide)).1]; exact this
  ·simp (disch:=omega)only[↓wr,seval,wq,t2,t4,t17,t18]
   refine aF N (by omega) ⟨Dl,I,u,y,S,fun z bb=>?_,t2,t4,t17,rfl⟩
   by_cases e:z=i
   ·rw[e]
    refine Yj fun hf=>?_
    obtain ⟨p,B,_⟩:=S.on i hi C hf
    simp at B
   ·exact f z (by omega)
 ·simp (disch:=omega)only[↓wr,seval,wq]
  refine ⟨I,y.sl,y.hs,fun z t C=>S.all (fun z C=>f z (by omega)) C,fun id h1 h2=>?_⟩
  have q:id≠d∧id≠o∧id≠A∧id≠j:=⟨fun e=>h1 (by rw[e]; exact X),fun e=>h1 (by rw[e]; exact kY),fun e=>h1 (by rw[e]; exact a),fun e=>h1 (by rw[e]; exact x6)⟩
  obtain ⟨F,Q,G,R⟩:=q
  have P:=hk id F Q G R
  rw[← P]
  exact y.keep id (by simp only[c]; rw[P]; exact h1) G F h2
end Gv
