/-
  Part 15 of the proof: what the machine does and what the functions answer.
  Conditions: those that each lemma names.
-/
import Derived.Test.YtomcjampldmjoaaGreatSGzWN
set_option linter.unusedSimpArgs false
set_option linter.unusedVariables false
set_option maxRecDepth 100000
namespace Gv
open Go Go.Proofs
def HV (t:c6):Bool:=decide (t.aD.length≤900) && decide (t.gotos.length≤900) && t.aD.all (fun r=>decide (r.length≤900) && r.all fun c=>jh c.kind && jh c.n) && t.gotos.all fun r=>decide (r.length≤900) && r.all jh
theorem wC {t:c6} (h:HV t=true):t.Ok:=by
  unfold HV at h
  simp only[Bool.and_eq_true,decide_eq_true_eq,List.all_eq_true] at h
  obtain ⟨⟨⟨h1,h2⟩,h3⟩,h4⟩:=h
  exact ⟨by unfold bc; omega,by unfold bc; omega,fun r hr=>⟨by unfold bc; have:=(h3 r hr).1; omega,fun c hc=>⟨fo ((h3 r hr).2 c hc).1,fo ((h3 r hr).2 c hc).2⟩⟩,fun r hr=>⟨by unfold bc; have:=(h4 r hr).1; omega,fun x hx=>fo ((h4 r hr).2 x hx)⟩⟩
theorem dU.Ok.new {P:Program} {f:FuncId} {vs:List V} {t:V} (hc:b6 P f vs t) (hk:ca P f=true):dU.Ok P (f,vs,t,false):=⟨hk,by simp only[Bool.false_eq_true,if_false]; exact .inl hc⟩
theorem dU.Ok.zm {P:Program} {f:FuncId} {vs:List V} {b:Bool} (hc:aJ P f vs (gb b)) (hk:ca P f=true):dU.Ok P (f,vs,gb b,false):=⟨hk,by simp only[Bool.false_eq_true,if_false]; exact .inr ⟨hc,.val _⟩⟩
theorem ext_cons {P:Program} {x:dU} {l:List dU} (h:x.Ok P) (hl:∀ y∈l,y.Ok P):∀ y∈x :: l,y.Ok P:=fun y hy=>by
  rcases List.mem_cons.1 hy with rfl | hy
  · exact h
  · exact hl y hy
def CK (g:aw):List dU:=[(48,[.agg (av g)],gb true,false),(38,[.agg (av g)],gb true,false)]
theorem Dt {g:aw} (hg:g.Ok) (h1:br g=true) (h2:isRed g=true):∀ x∈CK g,x.Ok Tryz.prog :=
  ext_cons (.zm (h1 ▸ iw g hg) (by kernel_rfl)) (ext_cons (.zm (h2 ▸ MG g hg) (by kernel_rfl)) (by simp))
theorem jr {l:List dU} (hl:∀ x∈l,x.Ok Tryz.prog) {g:aw} {f:FuncId} {t:V} (h:sY Tryz.prog Ad (F9 l) f [.agg (av g)]=some t):b6 Tryz.prog f [.agg (av g)] t :=
  kd mixed ux (yk hl) (gn g) h
def nK:c6:=⟨[[⟨1,1⟩,⟨2,1⟩],[⟨1,1⟩,⟨2,1⟩],[⟨0,0⟩,⟨3,0⟩],[⟨0,0⟩,⟨2,0⟩]],[[2],[3],[-1],[-1]]⟩
theorem Fc:nK.Ok:=wC (by kernel_rfl)
theorem KT:∀ x∈CK cG,x.Ok Tryz.prog:=Dt fk.1 (by kernel_rfl) (by kernel_rfl)
def FP:V:=.aM [[.val (.int .u32 1)]]
theorem G8:b6 Tryz.prog 203 [.agg (av cG)] FP:=jr KT (by kernel_rfl)
def MQ:List dU:=(203,[.agg (av cG)],FP,false) :: CK cG
theorem Lc:∀ x∈MQ,x.Ok Tryz.prog:=ext_cons (.new G8 (by kernel_rfl)) KT
def Hz:V:=.aM [[gb true]]
theorem I5:b6 Tryz.prog 202 [.agg (av cG)] Hz:=jr Lc (by kernel_rfl)
def MH:List dU:=(202,[.agg (av cG)],Hz,false) :: MQ
theorem La:∀ x∈MH,x.Ok Tryz.prog:=ext_cons (.new I5 (by kernel_rfl)) Lc
def FD:V:=.bh [.aM [[.aM [[.val (.int .i64 (-1)),.val (.int .i64 (0))]],.aM [[.val (.int .i64 (0)),.val (.int .i64 (1))],[.val (.int .i64 (-1)),.val (.int .i64 (2))]]],[.aM [[.val (.int .i64 (0)),.val (.int .i64 (1))]],.aM [[.val (.int .i64 (0)),.val (.int .i64 (1))],[.val (.int .i64 (-1)),.val (.int .i64 (3))]]],[.aM [[.val (.int .i64 (-1)),.val (.int .i64 (1))]],.aM []],[.aM [[.val (.int .i64 (0)),.val (.int .i64 (2))]],.aM []]],.val (.int .i64 (0))]
theorem Ge:b6 Tryz.prog 51 [.agg (av cG)] FD:=jr La (by kernel_rfl)
def Ms:List dU:=(51,[.agg (av cG)],FD,false) :: MH
theorem Lr:∀ x∈Ms,x.Ok Tryz.prog:=ext_cons (.new Ge (by kernel_rfl)) La
def Hy:V:=.bh [.aM [[.aM [[.val (.int .i64 (1)),.val (.int .u32 2)]]],[.aM [[.val (.int .i64 (1)),.val (.int .u32 2)]]],[.aM []],[.aM [[.val (.int .i64 (0)),.val (.int .u32 2)]]]],.val (.int .i64 (0))]
theorem Iq:b6 Tryz.prog 52 [.agg (av cG)] Hy:=jr Lr (by kernel_rfl)
def NS:List dU:=(52,[.agg (av cG)],Hy,false) :: Ms
theorem Nq:∀ x∈NS,x.Ok Tryz.prog:=ext_cons (.new Iq (by kernel_rfl)) Lr
def Hi:V:=.bh [.agg (aP nK),.aM [],gi 0]
theorem HO:b6 Tryz.prog 23 [.agg (av cG)] Hi:=jr Nq (by kernel_rfl)
theorem Nu:b6 Tryz.prog 41 [tR Lg] (jD c9):=zX (by kernel_rfl)
theorem vB:c9.Ok∧c9.Small:=Dp (by kernel_rfl)
def qG:c6:=⟨[[⟨2,2⟩,⟨0,0⟩,⟨0,0⟩],[⟨0,0⟩,⟨0,0⟩,⟨2,1⟩],[⟨0,0⟩,⟨0,0⟩,⟨3,0⟩],[⟨2,2⟩,⟨0,0⟩,⟨0,0⟩],[⟨0,0⟩,⟨0,0⟩,⟨2,0⟩]],[[2,3],[-1,-1],[-1,-1],[4,3],[-1,-1]]⟩
theorem LG:qG.Ok:=wC (by kernel_rfl)
theorem K3:∀ x∈CK c9,x.Ok Tryz.prog:=Dt vB.1 (by kernel_rfl) (by kernel_rfl)
def Fi:V:=.aM [[.val (.int .u32 1)],[.val (.int .u32 0)]]
theorem F0:b6 Tryz.prog 203 [.agg (av c9)] Fi:=jr K3 (by kernel_rfl)
def MM:List dU:=(203,[.agg (av c9)],Fi,false) :: CK c9
theorem Le:∀ x∈MM,x.Ok Tryz.prog:=ext_cons (.new F0 (by kernel_rfl)) K3
def HE:V:=.aM [[gb false],[gb true]]
theorem I6:b6 Tryz.prog 202 [.agg (av c9)] HE:=jr Le (by kernel_rfl)
def MZ:List dU:=(202,[.agg (av c9)],HE,false) :: MM
theorem KV:∀ x∈MZ,x.Ok Tryz.prog:=ext_cons (.new I6 (by kernel_rfl)) Le
def E1:V:=.bh [.aM [[.aM [[.val (.int .i64 (-1)),.val (.int .i64 (0))]],.aM [[.val (.int .i64 (0)),.val (.int .i64 (1))],[.val (.int .i64 (-1)),.val (.int .i64 (2))],[.val (.int .i64 (-2)),.val (.int .i64 (3))]]],[.aM [[.val (.int .i64 (1)),.val (.int .i64 (1))]],.aM []],[.aM [[.val (.int .i64 (-1)),.val (.int .i64 (1))]],.aM []],[.aM [[.val (.int .i64 (0)),.val (.int .i64 (1))]],.aM [[.val (.int .i64 (0)),.val (.int .i64 (1))],[.val (.int .i64 (-1)),.val (.int .i64 (4))],[.val (.int .i64 (-2)),.val (.int .i64 (3))]]],[.aM [[.val (.int .i64 (0)),.val (.int .i64 (2))]],.aM []]],.val (.int .i64 (0))]
theorem Gm:b6 Tryz.prog 51 [.agg (av c9)] E1:=jr KV (by kernel_rfl)
def MS:List dU:=(51,[.agg (av c9)],E1,false) :: MZ
theorem KP:∀ x∈MS,x.Ok Tryz.prog:=ext_cons (.new Gm (by kernel_rfl)) KV
def Jz:V:=.bh [.aM [[.aM [[.val (.int .i64 (2)),.val (.int .u32 1)]]],[.aM [[.val (.int .i64 (1)),.val (.int .u32 4)]]],[.aM []],[.aM [[.val (.int .i64 (2)),.val (.int .u32 1)]]],[.aM [[.val (.int .i64 (0)),.val (.int .u32 4)]]]],.val (.int .i64 (0))]
theorem Ig:b6 Tryz.prog 52 [.agg (av c9)] Jz:=jr KP (by kernel_rfl)
def NR:List dU:=(52,[.agg (av c9)],Jz,false) :: MS
theorem Nw:∀ x∈NR,x.Ok Tryz.prog:=ext_cons (.new Ig (by kernel_rfl)) KP
def Jk:V:=.bh [.agg (aP qG),.aM [[gi 0,gi 0,gi 1,gi 2,gi (-1)],[gi 3,gi 0,gi 1,gi 2,gi (-1)]],gi 0]
theorem Iy:b6 Tryz.prog 23 [.agg (av c9)] Jk:=jr Nw (by kernel_rfl)
theorem Nt:b6 Tryz.prog 41 [tR KZ] (jD eK):=zX (by kernel_rfl)
theorem vR:eK.Ok∧eK.Small:=Dp (by kernel_rfl)
def CB:c6:=⟨[[⟨1,1⟩,⟨0,0⟩,⟨0,0⟩],[⟨0,0⟩,⟨1,3⟩,⟨0,0⟩],[⟨0,0⟩,⟨0,0⟩,⟨3,0⟩],[⟨0,0⟩,⟨0,0⟩,⟨2,0⟩]],[[2],[-1],[-1],[-1]]⟩
theorem Lv:CB.Ok:=wC (by kernel_rfl)
theorem Lk:∀ x∈CK eK,x.Ok Tryz.prog:=Dt vR.1 (by kernel_rfl) (by kernel_rfl)
def EJ:V:=.aM [[.val (.int .u32 1)]]
theorem F2:b6 Tryz.prog 203 [.agg (av eK)] EJ:=jr Lk (by kernel_rfl)
def Mt:List dU:=(203,[.agg (av eK)],EJ,false) :: CK eK
theorem K0:∀ x∈Mt,x.Ok Tryz.prog:=ext_cons (.new F2 (by kernel_rfl)) Lk
def Jv:V:=.aM [[gb false]]
theorem Ip:b6 Tryz.prog 202 [.agg (av eK)] Jv:=jr K0 (by kernel_rfl)
def Nb:List dU:=(202,[.agg (av eK)],Jv,false) :: Mt
theorem Lj:∀ x∈Nb,x.Ok Tryz.prog:=ext_cons (.new Ip (by kernel_rfl)) K0
def Fh:V:=.bh [.aM [[.aM [[.val (.int .i64 (-1)),.val (.int .i64 (0))]],.aM [[.val (.int .i64 (0)),.val (.int .i64 (1))],[.val (.int .i64 (-1)),.val (.int .i64 (2))]]],[.aM [[.val (.int .i64 (0)),.val (.int .i64 (1))]],.aM [[.val (.int .i64 (1)),.val (.int .i64 (3))]]],[.aM [[.val (.int .i64 (-1)),.val (.int .i64 (1))]],.aM []],[.aM [[.val (.int .i64 (0)),.val (.int .i64 (2))]],.aM []]],.val (.int .i64 (0))]
theorem G6:b6 Tryz.prog 51 [.agg (av eK)] Fh:=jr Lj (by kernel_rfl)
def MX:List dU:=(51,[.agg (av eK)],Fh,false) :: Nb
theorem K1:∀ x∈MX,x.Ok Tryz.prog:=ext_cons (.new G6 (by kernel_rfl)) Lj
def Jn:V:=.bh [.aM [[.aM []],[.aM []],[.aM []],[.aM [[.val (.int .i64 (0)),.val (.int .u32 4)]]]],.val (.int .i64 (0))]
theorem Ic:b6 Tryz.prog 52 [.agg (av eK)] Jn:=jr K1 (by kernel_rfl)
def NQ:List dU:=(52,[.agg (av eK)],Jn,false) :: MX
theorem Nv:∀ x∈NQ,x.Ok Tryz.prog:=ext_cons (.new Ic (by kernel_rfl)) K1
def Jb:V:=.bh [.agg (aP CB),.aM [],gi 0]
theorem Hh:b6 Tryz.prog 23 [.agg (av eK)] Jb:=jr Nv (by kernel_rfl)
theorem Nl:∀ (k:Nat) (st rs:List Int),0 < st.length→bw st=3→fv c9 qG [0] k st rs 0=([],0,14):=by
  have hc:cr qG 3 (bz c9 [0] 0)=⟨2,2⟩:=by kernel_rfl
  have hr:(bU c9 2).right=[]:=by kernel_rfl
  have hg:fI qG 3 (bU c9 2).left=3:=by kernel_rfl
  intro k
  induction k with
  | zero =>
    intro st rs hs ht
    rw[lM,ht,hc]
    rfl
  | succ k ih =>
    intro st rs hs ht
    rw[lM,ht,hc]
    simp only[hr,List.length_nil,Nat.sub_zero,List.take_length,ht,hg]
    rw[if_neg (by decide),if_neg (by decide),if_neg (by decide),if_neg (by omega),if_neg (by decide)]
    exact ih _ _ (by simp) (by simp[bw,List.getD_eq_getElem?_getD])
theorem MO:iX c9 qG [0]=([],0,14):=by
  have hc:cr qG 0 (bz c9 [0] 0)=⟨2,2⟩:=by kernel_rfl
  have hr:(bU c9 2).right=[]:=by kernel_rfl
  have hg:fI qG 0 (bU c9 2).left=3:=by kernel_rfl
  have ht:bw [0]=0:=rfl
  rw[g9,if_pos (by kernel_rfl),show (2000:Nat)=1999+1 from rfl,lM,ht,hc]
  simp only[hr,List.length_cons,List.length_nil,Nat.sub_zero,Nat.zero_add,List.take_succ_cons,List.take_zero,ht,hg]
  rw[if_neg (by decide),if_neg (by decide),if_neg (by decide),if_neg (by omega),if_neg (by decide)]
  exact Nl 1999 _ _ (by simp) rfl
theorem Mm:iX cG nK [0,0]=([1,0,0],2,0):=by
  rw[g9,if_pos (by kernel_rfl)]; kernel_rfl
theorem L6:iX cG nK [1]=([],0,1):=by
  rw[g9,if_neg (by rw[show (fc cG [1] && eC cG nK)=false by kernel_rfl]; simp)]
theorem M3:iX eK CB [0,0]=([],1,3):=by
  rw[g9,if_pos (by kernel_rfl)]; kernel_rfl
theorem oH {w:List Int} (h:w.all jh=true):∀ x∈w,bW x:=fun x hx=>fo (List.all_eq_true.1 h x hx)
theorem jn {w:List Int} (h:w.length≤100):bc w:=by unfold bc; omega
def K8:List V:=[gi 1,gi 1,.aM [[.aM [[.val (.int .i64 (0)),.val (.int .i64 (1)),.val (.int .i64 (1))],[.val (.int .i64 (1)),.val (.int .i64 (2)),.val (.int .i64 (1))]]],[.aM [[.val (.int .i64 (1)),.val (.int .i64 (3)),.val (.int .i64 (0))]]],[.aM [[.val (.int .i64 (1)),.val (.int .i64 (2)),.val (.int .i64 (0))]]]],.aM [[.val (.int .i64 (0))],[.val (.int .i64 (0))],[.val (.int .i64 (1))],[.val (.int .i64 (2))]],.aM [[.aM [[.val (.int .i64 (0)),.val (.int .i64 (2))]]],[.aM [[.val (.int .i64 (0)),.val (.int .i64 (3))]]],[.aM []]],.aM [[.val (.int .i64 (0))],[.val (.int .i64 (1))],[.val (.int .i64 (2))],[.val (.int .i64 (2))]]]
theorem JV:b6 Tryz.prog 24 [.agg (aP nK)] (.bh [.agg K8,gi 0]) :=
  kd mixed ux (yk (l:=[]) (by simp)) (DZ nK) (by kernel_rfl)
def Lf:List dU:=[(15,[.agg (av cG),.agg (aP nK),encI [0,0]],ta ([1,0,0],2,0),false)]
theorem J6:∀ x∈Lf,x.Ok Tryz.prog :=
  ext_cons (.new (Mm ▸ mW cG fk.1 fk.2 nK Fc [0,0] (jn (by decide)) (oH (by kernel_rfl))) (by kernel_rfl)) (by simp)
def Nn:List dU:=(41,[tR K7],jD cG,false) :: (41,[tR Lg],jD c9,false) :: (41,[tR KZ],jD eK,false) ::
  (23,[.agg (av cG)],Hi,false) :: (23,[.agg (av c9)],Jk,false) :: (23,[.agg (av eK)],Jb,false) ::
  (24,[.agg (aP nK)],.bh [.agg K8,gi 0],false) ::
  (15,[.agg (av cG),.agg (aP nK),encI [1]],ta ([],0,1),false) :: (15,[.agg (av c9),.agg (aP qG),encI [0]],ta ([],0,14),false) :: (15,[.agg (av eK),.agg (aP CB),encI [0,0]],ta ([],1,3),false) ::
  (17,[encI [1,0,0],encI [1,0,0]],gb true,false) :: (18,[.agg (av cG),encI [0]],gb true,false) :: (18,[.agg (av cG),encI [-1]],gb false,false) :: Lf
theorem KH:∀ x∈Nn,x.Ok Tryz.prog :=
  ext_cons (.new Nx (by kernel_rfl)) <| ext_cons (.new Nu (by kernel_rfl)) <| ext_cons (.new Nt (by kernel_rfl)) <|
  ext_cons (.new HO (by kernel_rfl)) <| ext_cons (.new Iy (by kernel_rfl)) <| ext_cons (.new Hh (by kernel_rfl)) <|
  ext_cons (.new JV (by kernel_rfl)) <|
  ext_cons (.new (L6 ▸ mW cG fk.1 fk.2 nK Fc [1] (jn (by decide)) (oH (by kernel_rfl))) (by kernel_rfl)) <|
  ext_cons (.new (MO ▸ mW c9 vB.1 vB.2 qG LG [0] (jn (by decide)) (oH (by kernel_rfl))) (by kernel_rfl)) <|
  ext_cons (.new (M3 ▸ mW eK vR.1 vR.2 CB Lv [0,0] (jn (by decide)) (oH (by kernel_rfl))) (by kernel_rfl)) <|
  ext_cons (.zm ((show ([1,0,0]:List Int) == [1,0,0] by kernel_rfl) ▸ wZ [1,0,0] [1,0,0] (jn (by decide))) (by kernel_rfl)) <|
  ext_cons (.zm ((show fc cG [0]=true by kernel_rfl) ▸ uc cG fk.1 fk.2 [0] (jn (by decide)) (oH (by kernel_rfl))) (by kernel_rfl)) <|
  ext_cons (.zm ((show fc cG [-1]=false by kernel_rfl) ▸ uc cG fk.1 fk.2 [-1] (jn (by decide)) (oH (by kernel_rfl))) (by kernel_rfl)) J6
theorem GJ:aJ Tryz.prog 11 [] (gb true) :=
  (kd mixed ux (yk KH) (by simp) (by kernel_rfl)).pure
theorem DP (g:aw) (hg:g.Ok) (t:c6) (ht:t.Ok) (w:List Int) (hw:bc w) (hn:∀ x∈w,bW x):aJ Tryz.prog 3 [.agg (av g),.agg (aP t),encI w] (gb true):=yI GJ g hg t ht w hw hn
end Gv
