/-
  Part 14 of the proof: what the machine does and what the functions answer.
  Conditions: those that each lemma names.
-/
import Derived.Test.YtihmlbdfcmfbdaaGreatSGzA9M
set_option linter.unusedSimpArgs false
set_option linter.unusedVariables false
set_option maxRecDepth 100000
namespace Gv
open Go Go.Proofs
def xU (ls:List (List aH)):List (List V):=ls.map fun l=>[.aK (aT l)]
def eN (g:aw) (a:List aR) (ul us:V) (more:Bool):List V:=[.aK (g.ay.map b6),.aK (g.az.map fun s=>[gs s]),.aK (g.rules.map aO),gi g.start,bm a,ul,us,gb more]
def uU:List V→Sets→List cz
 | v :: vs,s :: ss=>(v,1,bT s) :: uU vs ss
 | _,_=>[]
structure cd (H:View) (b:Nat) (g:aw) (a:List aR) (ul us:V) (vs:List V) (ls:List (List aH)) (ss:Sets) (more:Bool) (L:List cz):Prop where
 len:vs.length=ss.length
 own:bt H ((.sl b 0 1 8,8,[eN g a ul us more]) :: (ul,1,xU ls) :: (us,1,vs.map fun v=>[v]) :: (uU vs ss ++ L))
theorem we:∀ (vs:List V) (ss:Sets) (i:Nat) (v:V),vs.length=ss.length→vs[i]?=some v→∃ P Q,uU vs ss=P ++ (v,1,bT (ss.getD i [])) :: Q∧∀ r,uU vs (ss.set i r)=P ++ (v,1,bT r) :: Q
 | [],_,i,v,_,h=>by simp at h
 | x :: vs,[],i,v,h,_=>by simp at h
 | x :: vs,s :: ss,0,v,_,h=>by
  simp at h; subst h
  exact ⟨[],uU vs ss,rfl,fun r=>rfl⟩
 | x :: vs,s :: ss,i+1,v,hl,h=>by
  obtain ⟨P,Q,h1,h2⟩:=we vs ss i v (by simpa using hl) (by simpa using h)
  refine ⟨(x,1,bT s) :: P,Q,?_,fun r=>?_⟩
  ·simp[uU,h1]
  ·simp[uU,h2]
section
variable {H:View} {b:Nat} {g:aw} {a:List aR} {ul us:V} {vs:List V} {ls:List (List aH)} {ss:Sets} {more:Bool} {L:List cz}
theorem cd.box (h:cd H b g a ul us vs ls ss more L):H b=.arr 8 [eN g a ul us more]:=h.own.is 0 rfl (by simp)
theorem cd.lists (h:cd H b g a ul us vs ls ss more L) (hl:0 < ls.length):∃ n,ul=.sl n 0 ls.length 1∧H n=.arr 1 (xU ls):=by
 obtain ⟨n,h1,h2⟩:=(h.own.own 1 rfl).sl (by simpa [xU] using hl)
 exact ⟨n,by simpa [xU] using h1,h2⟩
theorem cd.LJ (h:cd H b g a ul us vs ls ss more L) (hl:0 < ss.length):∃ n,us=.sl n 0 ss.length 1∧H n=.arr 1 (vs.map fun v=>[v]):=by
 obtain ⟨n,h1,h2⟩:=(h.own.own 2 rfl).sl (by simpa [h.len] using hl)
 exact ⟨n,by simpa [h.len] using h1,h2⟩
theorem cd.DU {n k:Nat} (h:cd H b g a (.sl n 0 k 1) us vs ls ss more L) (hl:0 < ls.length):H n=.arr 1 (xU ls)∧k=ls.length:=by
 obtain ⟨m,h1,h2⟩:=h.lists hl
 simp only[V.sl.injEq] at h1
 obtain ⟨rfl,_,rfl,_⟩:=h1
 exact ⟨h2,rfl⟩
theorem cd.NY {n k:Nat} (h:cd H b g a ul (.sl n 0 k 1) vs ls ss more L) (hl:0 < ss.length):H n=.arr 1 (vs.map fun v=>[v])∧k=ss.length:=by
 obtain ⟨m,h1,h2⟩:=h.LJ hl
 simp only[V.sl.injEq] at h1
 obtain ⟨rfl,_,rfl,_⟩:=h1
 exact ⟨h2,rfl⟩
theorem cd.row (h:cd H b g a ul us vs ls ss more L) {i:Nat} {v:V} (hv:vs[i]?=some v):ba H v 1 (bT (ss.getD i [])):=by
 obtain ⟨P,Q,h1,_⟩:=we vs ss i v h.len hv
 refine h.own.1 (v,1,bT (ss.getD i [])) (Vt _ (Vt _ (Vt _ (WC _ ?_))))
 rw[h1]; simp
theorem Hf {α:Type} {x y z e:α} {P Q L:List α} : (x :: y :: z :: ((P ++ e :: Q) ++ L)).Perm (e :: x :: y :: z :: ((P ++ Q) ++ L)):=by
 have h:((P ++ e :: Q) ++ L).Perm (e :: ((P ++ Q) ++ L)):=by
  simp
 exact (((h.cons z).cons y).cons x).trans (VS (a:=e) (l₁:=[x,y,z]) (l₂:=(P ++ Q) ++ L))
theorem cd.put (h:cd H b g a ul us vs ls ss more L) {i n k:Nat} (hv:vs[i]?=some (.sl n 0 k 1)) {r:List BV} (hr:r.length=(ss.getD i []).length) (hk:k=(ss.getD i []).length):cd (H.set n (.arr 1 (bT r))) b g a ul us vs ls (ss.set i r) more L:=by
 obtain ⟨P,Q,h1,h2⟩:=we vs ss i _ h.len hv
 refine ⟨by rw[WW]; exact h.len,?_⟩
 have o:=h.own
 rw[h1] at o
 have o2:=(o.perm Hf).put (es':=bT r) (by simp[hr]) (by simp[hk])
 rw[h2]
 exact o2.perm Hf.symm
theorem cd.flag (h:cd H b g a ul us vs ls ss more L) (m:Bool):cd (H.set b (.arr 8 [eN g a ul us m])) b g a ul us vs ls ss m L:=⟨h.len,h.own.put rfl rfl⟩
theorem cd.fresh (h:cd H b g a ul us vs ls ss more L) {n:Nat} {o:cZ} (hn:H n=.dead):cd (H.set n o) b g a ul us vs ls ss more L:=⟨h.len,h.own.fresh hn⟩
end
theorem CY {ls:List (List aH)} {i:Nat} (h:i < ls.length):(xU ls).getD i []=[.aK (aT (ls.getD i []))]:=by simp[xU,U8,h]
theorem CE {vs:List V} {i:Nat} {v:V} (h:vs[i]?=some v):(vs.map fun v=>[v]).getD i []=[v]:=by simp[U8,h]
def kq:SC :=
 .seq (.seq (ao [aj 9 8,aj 10 0,dg 11 10,aB 12 5 11,ax 13 12,aj 14 1,aP 15 1 13 14,ax 16 15,aX 17 16,bc 18 .lss 9 17]) <|
 .cond (.tmp 18) (.skip) (.exit 0)) <|
 .seq (.block 1 (.seq (.region false [⟨none,[aj 21 0,dg 22 21,aB 23 5 22,ax 24 23,aj 25 1,aP 26 1 24 25,ax 27 26,aj 28 8,aP 29 2 27 28,bp 30 2 29,bp 31 2 6,((some 32),.op (.old (.binOp .eql 33 (.tmp 30) (.tmp 31) 33) 4)),aj 33 32]⟩,⟨(some (33,true)),[aj 34 3,aj 35 0,dg 36 35,aB 37 6 36,ax 38 37,aj 39 1,aP 40 1 38 39,ax 41 40,aj 42 8,aP 43 1 41 42,ax 44 43,bc 45 .andNot 34 44,((some 46),.op (.arith .neq (.tmp 45) (.val (.val (.int .u32 0)))))]⟩,⟨none,[eF 47 33 46]⟩]) <|
 .cond (.tmp 47) (.seq (ao [aj 48 0,dg 49 48,aB 50 6 49,ax 51 50,aj 52 1,aP 53 1 51 52,ax 54 53,aj 55 8,aj 56 0,dg 57 56,aB 58 6 57,ax 59 58,aj 60 1,aP 61 1 59 60,ax 62 61,aj 63 8,aP 64 1 62 63,ax 65 64,aj 66 3,bc 67 .or 65 66,aP 68 1 54 55,(none,.op (.store 1 (.tmp 68) (.tmp 67)))]) <|
 ao [aj 69 0,dg 70 69,aB 71 7 70,(none,.op (.store 1 (.tmp 71) (.val (.val (.bool true)))))]) (.skip))) <|
 ao [aj 19 8,aQ 20 .add 19 1,aj 8 20]
def lQ:SF:=⟨.seq (ao [cL 6 2]) <|
 .seq (ao [bj 8 0]) <|
 .block 0 (.loop kq),
 [],72⟩
theorem rl:aV Tryz.prog 76 [6]=some lQ:=by kernel_rfl
def gE (l:List aH) (row:List BV) (x:aH) (s:BV) (i:Nat):List BV:=(iX l row x s).take i ++ row.drop i
theorem N2 {l:List aH} {row:List BV} {x:aH} {s:BV} (h:row.length=l.length) (i:Nat) (hi:i≤l.length):(gE l row x s i).length=row.length:=by
 simp[gE,j8 h]; omega
theorem ME {l:List aH} {row:List BV} {x:aH} {s:BV} (h:row.length=l.length) {i:Nat} (hi:i < l.length):(gE l row x s i)[i]?=row[i]?:=by
 unfold gE
 rw[VN (by simp[j8 h]; omega)]
 simp[j8 h,Nat.min_eq_left (show i≤row.length by omega)]
theorem K6 {l:List aH} {row:List BV} {x:aH} {s:BV} (h:row.length=l.length) {i:Nat} {y:aH} {v:BV} (hy:l[i]?=some y) (hv:row[i]?=some v):gE l row x s (i+1)=if y=x then (gE l row x s i).set i (v ||| s) else gE l row x s i:=by
 have hi:=(Vn.1 hy).1
 have hg:(iX l row x s)[i]?=some (if y=x then v ||| s else v):=by simp[iX,List.getElem?_zipWith,hy,hv]
 have hd:row.drop i=v :: row.drop (i+1):=by
  obtain ⟨q,e⟩:=Vn.1 hv
  rw[VT q,e]
 have hl:((iX l row x s).take i).length=i:=by simp[j8 h]; omega
 unfold gE
 rw[Vx,hg,hd]
 split
 ·rw[List.set_append_right _ _ (by omega),hl,Nat.sub_self,List.set_cons_zero]
  simp
 ·simp
theorem Gq {α:Type} {l:List α} {i:Nat} {d:α} (h:i < l.length):l.set i (l.getD i d)=l:=by
 rw[U8,U9 h]
 exact List.set_getElem_self h
theorem kc (ls:List (List aH)):(xU ls).length=ls.length:=by simp[xU]
theorem Mh (l:List BV) (i:Nat) (z:BV):(bT l).set i [gw z]=bT (l.set i z):=by rw[bT,bT,WQ]
theorem lF (l:List BV):(bT l).length=l.length:=by simp
theorem MT {α:Type} (l:List α) (i:Nat) (x y:α):(l.set i x).set i y=l.set i y:=by simp
theorem IH {α:Type} {l:List α} {i:Nat} {r d:α} (h:i < l.length):l.set i r=l↔r=l.getD i d:=by
 constructor
 ·intro e
  have h2:(l.set i r).getD i d=l.getD i d:=by rw[e]
  rw[gJ,Vd ⟨rfl,h⟩] at h2
  exact h2
 ·rintro rfl; exact Gq h
set_option maxHeartbeats 8000000 in
theorem Dq (g:aw) (a:List aR) (ul us:V) (vs:List V) (ls:List (List aH)) (ss:Sets) (more:Bool) (L:List cz) (b:Nat) (H:View) (hc:cd H b g a ul us vs ls ss more L) (hsh:j4 ls ss) (hsm:∀ l∈ls,l.length≤10000) (st:Nat) (hst:st < ls.length) (x:aH) (s:BV) :
  aC Tryz.prog 76 [.ptr b 0 0,gi st,.agg (bE x),gw s] H fun _ H'=>cd H' b g a ul us vs ls (fg ls ss st x s) (more || decide (fg ls ss st x s≠ss)) L:=by
 refine aC.of mixed rl ?_
 have hss:st < ss.length:=by rw[hsh.1]; exact hst
 have hl:=CY hst
 have hlm:=hsm _ (Vf (getD_some (d:=[]) hst))
 have hrl:=hsh.2 st
 have hv:vs[st]?=some (vs[st]'(by rw[hc.len]; exact hss)):=U9 _
 generalize vs[st]'(by rw[hc.len]; exact hss)=v at hv
 obtain ⟨nl,rfl,_⟩:=hc.lists (by omega)
 obtain ⟨nu,rfl,_⟩:=hc.LJ (by omega)
 simp (disch:=omega) only [↓wr,seval,wq,ah,ag,ak,aa,ab,af,ai,ae,lQ,bE]
 unfold fg
 generalize ls.getD st []=l at *
 generalize hrow:ss.getD st []=row at *
 refine aZ.up l.length (fun i T H'=>∃ m:Bool,(m=(more || decide (gE l row x s i≠row)))∧cd H' b g a (.sl nl 0 ls.length 1) (.sl nu 0 ss.length 1) vs ls (ss.set st (gE l row x s i)) m L∧T 0=.ptr b 0 0∧T 1=gi st∧T 3=gw s∧T 6=.aN (bE x) 0∧T 8=gi i) ?_ ?_
 ·have e0:gE l row x s 0=row:=by simp[gE]
  refine ⟨more,by rw[e0]; simp,?_,rfl,rfl,rfl,rfl,rfl⟩
  rw[e0,← hrow,Gq hss]
  exact hc
 rintro i k T H' hk ⟨m,hm,hc,t0,t1,t3,t6,t8⟩
 have hb:=hc.box
 have hnl:=(hc.DU (by omega)).1
 simp (disch:=omega) only [↓wr,seval,wq,ah,ag,ak,aa,ab,af,ai,ae,kq,t0,t1,t3,t6,t8,hb,eN,hnl,hl,kc,bJ]
 refine ⟨hst,hst,?_⟩
 refine av.dec (fun hc2=>?_) (fun hc2=>?_)
 ·have hil:i < l.length:=by omega
  have hy:l[i]?=some (l[i]'hil):=U9 hil
  have hw:row[i]?=some (row[i]'(by omega)):=U9 (by omega)
  generalize l[i]'hil=y at hy
  generalize row[i]'(by omega)=w at hw
  have hcur:=ME (x:=x) (s:=s) hrl hil
  rw[hw] at hcur
  have hclen:=N2 (x:=x) (s:=s) hrl i (by omega)
  have hnx:=K6 (x:=x) (s:=s) hrl hy hw
  have hcs:(ss.set st (gE l row x s i)).getD st []=gE l row x s i:=by rw[gJ,Vd ⟨rfl,hss⟩]
  have hro:=hc.row hv
  rw[hcs] at hro
  obtain ⟨nv,hv',hnv⟩:=hro.sl (by rw[lF]; omega)
  have hnu:=(hc.NY (by rw[WW]; omega)).1
  have hbn:¬ b=nv:=by rintro rfl; rw[hb] at hnv; simp at hnv
  rw[lF] at hv'
  generalize hcu:gE l row x s i=cur at *
  simp (disch:=omega) only [↓wr,seval,wq,ah,ag,ak,aa,ab,af,ai,ae,t0,t1,t3,t6,t8,hb,eN,hnl,hl,kc,aT,Vc,hy,Vh,bE]
  refine ⟨hst,hst,?_⟩
  refine iw (xs:=#[.int .i64 y.aF,.int .i64 y.dot]) (ys:=#[.int .i64 x.aF,.int .i64 x.dot]) Tryz.underlying33 (by kernel_rfl) (by kernel_rfl) ?_ ?_ (qA y x) (.inl ⟨rfl,rfl⟩) ?_
  ·rfl
  ·rfl
  rw[ze]
  simp (disch:=omega) only [↓wr,seval,wq,ah,ag,ak,aa,ab,af,ai,ae,t0,t1,t3,t6,t8]
  have same:gE l row x s (i+1)=cur→∀ T':Env,T' 0=.ptr b 0 0→T' 1=gi st→T' 3=gw s→T' 6=.aN (bE x) 0→T' 8=gi ((i:Int)+1)→∃ k',k' < k∧Cn l.length k' (fun i T H'=>∃ m:Bool,(m=(more || decide (gE l row x s i≠row)))∧cd H' b g a (.sl nl 0 ls.length 1) (.sl nu 0 ss.length 1) vs ls (ss.set st (gE l row x s i)) m L∧T 0=.ptr b 0 0∧T 1=gi st∧T 3=gw s∧T 6=.aN (bE x) 0∧T 8=gi i) T' H':=fun e T' e0 e1 e3 e6 e8 =>
   aM hk hil ⟨m,by rw[e]; exact hm,by rw[e]; exact hc,e0,e1,e3,e6,e8⟩
  refine av.dec (fun he=>?_) (fun he=>?_)
  rotate_left
  ·rw[Va he] at hnx
   simp (disch:=omega) only [↓wr,seval,wq,ah,ag,ak,aa,ab,af,ai,ae,t0,t1,t3,t6,t8]
   exact same hnx _ t0 t1 t3 t6 rfl
  rw[Vd he] at hnx
  simp (disch:=omega) only [↓wr,seval,wq,ah,ag,ak,aa,ab,af,ai,ae,t0,t1,t3,t6,t8,hb,eN,hnu,CE hv,hv',hnv,vm hcur,QB]
  refine ⟨by omega,by rw[hc.len,WW]; omega,by omega,by omega,?_⟩
  refine av.ne (fun hz=>?_) (fun hz=>?_)
  ·have hnsub:¬ iq s w:=fun h=>hz (toNat_zero.2 (Aw.2 h))
   have hc2:=hc.put (r:=cur.set i (w ||| s)) (by rw[← hv']; exact hv) (by rw[hcs,WW]) (by rw[hcs])
   rw[MT] at hc2
   have hb2:=hc2.box
   simp (disch:=omega) only [↓wr,seval,wq,ah,ag,ak,aa,ab,af,ai,ae,t0,t1,t3,t6,t8,hb,eN,hnu,CE hv,hv',hnv,vm hcur,sC,Mh,hbn]
   have hvl:st < vs.length:=by rw[hc.len,WW]; exact hss
   have hch:gE l row x s (i+1)≠row:=fun e=>by
    have h1:(cur.set i (w ||| s))[i]?=some (w ||| s):=by rw[W6 (by omega)]
    rw[← hnx,e,hw] at h1
    simp only[Vb] at h1
    rw[BitVec.or_comm] at h1
    exact hnsub (DE.1 h1.symm)
   refine ⟨hss,hvl,hss,hvl,by omega,by omega,by omega,by omega,aM hk hil ⟨true,by rw[Xi hch,Bool.or_true],?_,t0,t1,t3,t6,rfl⟩⟩
   rw[hnx]
   exact hc2.flag true
  ·have hsub:iq s w:=Aw.1 (toNat_zero.1 hz)
   simp (disch:=omega) only [↓wr,seval,wq,ah,ag,ak,aa,ab,af,ai,ae,t0,t1,t3,t6,t8]
   refine same ?_ _ t0 t1 t3 t6 rfl
   rw[hnx,show w ||| s=w by rw[BitVec.or_comm]; exact DE.2 hsub]
   obtain ⟨q,e⟩:=Vn.1 hcur
   rw[← e]; exact List.set_getElem_self q
 ·have hil:i=l.length:=by omega
  have e:gE l row x s i=iX l row x s:=by
   subst hil
   unfold gE
   rw[Vq (by rw[j8 hrl]; omega),VD (by omega),Wx]
  rw[e] at hm hc
  simp (disch:=omega) only [↓wr,seval,wq,ah,ag,ak,aa,ab,af,ai,ae]
  rw[hm] at hc
  rw[show decide (ss.set st (iX l row x s)≠ss)=decide (iX l row x s≠row) by
   simp only[ne_eq,IH (d:=[]) hss,hrow]]
  exact hc
theorem nr {α:Type} {x y z e:α} {Z L:List α} : (x :: y :: z :: (Z ++ e :: L)).Perm (e :: x :: y :: z :: (Z ++ L)) :=
 ((((VS (a:=e) (l₁:=Z) (l₂:=L)).cons z).cons y).cons x).trans (VS (a:=e) (l₁:=[x,y,z]) (l₂:=Z ++ L))
section
variable {H:View} {b:Nat} {g:aw} {a:List aR} {ul us:V} {vs:List V} {ls:List (List aH)} {ss:Sets} {more:Bool} {L:List cz}
theorem cd.Uz (h:cd H b g a ul us vs ls ss more L) {n:Nat} (hn:H n=.dead) (sz:Nat) (es:List (List V)):cd (H.set n (.arr sz es)) b g a ul us vs ls ss more ((.sl n 0 es.length sz,sz,es) :: L) :=
 ⟨h.len,(h.own.new hn sz es).perm nr.symm⟩
theorem cd.drop {e:cz} (h:cd H b g a ul us vs ls ss more (e :: L)):cd H b g a ul us vs ls ss more L :=
 ⟨h.len,(h.own.perm nr).tail⟩
theorem cd.SE {n k sz:Nat} {es:List (List V)} (h:cd H b g a ul us vs ls ss more ((.sl n 0 k sz,sz,es) :: L)) (he:0 < es.length):H n=.arr sz es :=
 (h.own.perm nr).is 0 rfl he
end
theorem Hl {s0 s1 s2:Sets} (h:j0 s0 s1) (k:j0 s1 s2):(decide (s1≠s0) || decide (s2≠s1))=decide (s2≠s0):=by
 rw[We]
 simp only[V7,Vo]
 constructor
 ·rintro (e | e) e2
  ·subst e2; exact e (k.sU h)
  ·subst e2; exact e (h.sU k)
 ·intro e
  by_cases e1:s1=s0
  ·exact .inr (by rw[e1]; exact e)
  ·exact .inl e1
theorem Qq {g:aw} (hr:bS g=true) {x:aH} (hx:cr g x) (s:BV):Jt g (dy g x) s=ew (aA g false) (en g (aA g false)) s (dy g x):=by
 have h:bS g=true∧∀ s∈dy g x,gu g s=true:=⟨hr,fun y hy=>by
  unfold dy at hy
  split at hy
  ·have hR:g.rules[x.aF.toNat]?=some (aE g x.aF):=by unfold aE; exact getD_some (by have:=hx.1; omega)
   exact (bO hr).sym _ (Vf hR) y (List.mem_of_mem_drop hy)
  ·simp at hy⟩
 rw[Jt,Vd h]
structure Of (g:aw) (a:List aR) (ls:List (List aH)):Prop where
 Rh:g.Ok
 right:bS g=true
 len:ls.length=a.length
 K8:1≤a.length
 short:a.length≤300
 bk:∀ s∈a,aS s.bk∧∀ e∈s.bk,cm e.sym∧cm e.to
 item:∀ l∈ls,l.length≤10000∧∀ x∈l,cr g x
def kx:SC :=
 .seq (.seq (ao [aj 96 13,aj 97 0,dg 98 97,aB 99 0 98,aB 100 2 99,ax 101 100,aX 102 101,bc 103 .lss 96 102]) <|
 .cond (.tmp 103) (.skip) (.exit 0)) <|
 .seq (.block 1 (.seq (ao [aj 106 0,dg 107 106,aB 108 0 107,aB 109 2 108,ax 110 109,aj 111 13,aP 112 3 110 111,aB 113 0 112,ax 114 113,aj 115 8,((some 116),.op (.arith .sub (.val (.val (.int .i64 (-1)))) (.tmp 115))),bc 117 .eql 114 116]) <|
 .cond (.tmp 117) (ao [aj 118 0,aj 119 1,aj 120 13,((some 121),.op (.build [(.val (.int .i64 0)),(.val (.int .i64 0))] [(0,1,(.tmp 120))])),aj 122 7,bC 123 76 [118,119,121,122]]) (.skip))) <|
 ao [aj 104 13,aQ 105 .add 104 1,aj 13 105]
def lM:SF:=⟨.seq (ao [aj 14 0,dg 15 14,aB 16 5 15,ax 17 16,aj 18 1,aP 19 1 17 18,ax 20 19,aj 21 2,aP 22 2 20 21,bp 23 2 22,aj 24 0,dg 25 24,aB 26 6 25,ax 27 26,aj 28 1,aP 29 1 27 28,ax 30 29,aj 31 2,aP 32 1 30 31,ax 33 32,((some 6),.op (.alloc [(.val (.int .i64 0)),(.val (.int .i64 0))])),(none,.op (.store 2 (.tmp 6) (.tmp 23))),aj 7 33]) <|
 .seq (ao [aj 35 0,dg 36 35,aB 37 0 36,bp 38 4 37,bp 39 2 6,bC 40 18 [38,39],aj 34 40,fK 41 0 34,fK 42 1 34,aj 8 41,aj 9 42]) <|
 .seq (.seq (.region false [⟨none,[aj 43 9,dd 44 43,aj 45 44]⟩,⟨(some (45,false)),[aj 46 7,((some 47),.op (.arith .eql (.tmp 46) (.val (.val (.int .u32 0)))))]⟩,⟨none,[c6 48 45 47]⟩]) <|
 .cond (.tmp 48) (.ret) (.skip)) <|
 .seq (ao [aj 50 0,dg 51 50,aB 52 4 51,ax 53 52,aj 54 1,aj 55 8,((some 56),.op (.cg 1 1 [(.val (.int .i64 0))] [(0,(.tmp 55))])),bC 57 29 [53,54,56],aj 49 57,fK 58 0 49,fK 59 1 49,aj 10 58,aj 11 59]) <|
 .seq (ao [aj 60 0,aj 61 10,aB 62 0 6,ax 63 62,aB 64 1 6,ax 65 64,aQ 66 .add 65 1,((some 67),.op (.build [(.val (.int .i64 0)),(.val (.int .i64 0))] [(0,1,(.tmp 63)),(1,1,(.tmp 66))])),aj 68 7,bC 69 76 [60,61,67,68]]) <|
 .seq (.seq (ao [aj 70 8,aQ 71 .geq 70 0]) <|
 .cond (.tmp 71) (.ret) (.skip)) <|
 .seq (ao [((some 12),.op (.bL (.val (.emp 1))))]) <|
 .seq (.seq (ao [aB 72 0 6,ax 73 72,aQ 74 .geq 73 0]) <|
 .cond (.tmp 74) (ao [aj 75 0,dg 76 75,aB 77 0 76,aB 78 2 77,ax 79 78,aB 80 0 6,ax 81 80,aP 82 3 79 81,aB 83 1 82,ax 84 83,aB 85 1 6,ax 86 85,aQ 87 .add 86 1,((some 88),.op (.slice 1 (.tmp 84) (some (.tmp 87)) none)),aj 12 88]) (.skip)) <|
 .seq (ao [aj 89 0,dg 90 89,aB 91 0 90,bp 92 4 91,aj 93 12,aj 94 7,bC 95 123 [92,93,94],aj 7 95]) <|
 .seq (ao [bj 13 0]) <|
 .block 0 (.loop kx),
 [],124⟩
theorem rv:aV Tryz.prog 78 []=some lM:=by kernel_rfl
theorem wT {g:aw} (hf:g.dK) {x:aH} (h:cr g x):cm x.aF∧cm x.dot:=by
 have:=eS hf h.1
 have:=hf.rules
 obtain ⟨⟨h1,h2⟩,h3,h4⟩:=h
 unfold cm; omega
theorem dT.nil {H:View} {k:Nat} : dT H (.emp k) (encI []):=fun _ _=>.emp k
set_option maxHeartbeats 16000000 in
theorem RV (g:aw) (a:List aR) (ul us:V) (vs:List V) (ls:List (List aH)) (ss:Sets) (more:Bool) (L:List cz) (b:Nat) (H:View) (hW:Of g a ls) (hc:cd H b g a ul us vs ls ss more L) (hsh:j4 ls ss) (i k:Nat) (hi:i < ls.length) (hk:k < (ls.getD i []).length) :
  aC Tryz.prog 78 [.ptr b 0 0,gi i,gi k] H fun _ H'=>cd H' b g a ul us vs ls (iN g (aA g false) a ls i k ss) (more || decide (iN g (aA g false) a ls i k ss≠ss)) L:=by
 refine aC.of mixed rv ?_
 have hf:=bO hW.right
 have hsm:∀ l∈ls,l.length≤10000:=fun l hl=>(hW.item l hl).1
 have hla:=hW.len
 have h300:=hW.short
 have hru:=hf.rules
 have hss:i < ss.length:=by rw[hsh.1]; exact hi
 have hl:=CY hi
 have hlm:=hW.item _ (Vf (getD_some (d:=[]) hi))
 have hrl:=hsh.2 i
 have hx:(ls.getD i [])[k]?=some ((ls.getD i []).getD k ⟨0,0⟩):=getD_some hk
 have hw:(ss.getD i [])[k]?=some (dQ ss i k):=getD_some (by omega)
 have hxH:=hlm.2 _ (Vf hx)
 have hpk:=Gr (null:=aA g false) (g:=g) hla hW.K8 hi k hsh
 have hv:vs[i]?=some (vs[i]'(by rw[hc.len]; exact hss)):=U9 _
 generalize vs[i]'(by rw[hc.len]; exact hss)=v at hv
 obtain ⟨nl,rfl,hnl⟩:=hc.lists (by omega)
 obtain ⟨nu,rfl,hnu⟩:=hc.LJ (by omega)
 obtain ⟨nv,rfl,hnv⟩:=(hc.row hv).sl (by rw[lF]; omega)
 have hvl:i < vs.length:=by rw[hc.len]; exact hss
 have hb:=hc.box
 unfold iN at hpk ⊢
 generalize (ls.getD i []).getD k ⟨0,0⟩=x at *
 generalize dQ ss i k=w at *
 have hnext:=EI g hW.Rh x (wT hf hxH)
 rw[CH,Vd (nZ.2 ⟨hW.right,hxH⟩)] at hnext
 have hrest:=Qq hW.right hxH
 cases hnx:bA g x with
 | mk sym okb =>
 have hsb:=rP hf hxH hnx
 have hx64:=wT hf hxH
 have hd6:=eS hf hxH.1
 have hdd:0≤x.dot∧x.dot≤6:=⟨hxH.2.1,by have:=hxH.2.2; omega⟩
 rw[hnx] at hnext hpk
 simp only[au,encS,bE] at hnext
 simp (disch:=omega) only [↓wr,seval,wq,ah,ag,ak,aa,ab,af,ai,ae,lM,hb,eN,hnl,hl,kc,aT,Vc,hx,Vh,bE,hnu,CE hv,hnv,vm hw,lF]
 refine ⟨hi,hi,hss,hvl,by omega,by omega,?_⟩
 intro bx hbx
 rw[set_set]
 have hc1:=hc.Uz hbx 2 [[gi x.aF,gi x.dot]]
 have hb1:=hc1.box
 have hx1:=hc1.SE (by simp)
 have hbb:¬ b=bx:=by rintro rfl; rw[hb] at hbx; simp at hbx
 simp (disch:=omega) only [↓wr,seval,wq,ah,ag,ak,aa,ab,af,ai,ae,hbb]
 refine aD.pure hnext (by kernel_rfl) ?_
 generalize H.set bx (.arr 2 [[gi x.aF,gi x.dot]])=H1 at hc1 hb1 hx1 ⊢
 clear hc hnl hnu hnv hb
 simp (disch:=omega) only [↓wr,seval,wq,ah,ag,ak,aa,ab,af,ai,ae]
 cases okb with
 | false =>
  simp (disch:=omega) only [↓wr,seval,wq,ah,ag,ak,aa,ab,af,ai,ae]
  simp
  exact hc1.drop
 | true =>
  simp (disch:=omega) only [↓wr,seval,wq,ah,ag,ak,aa,ab,af,ai,ae]
  refine av.eq (fun hz=>?_) (fun hz=>?_)
  ·have hz2:w=0#32:=toNat_zero.1 hz
   simp (disch:=omega) only [↓wr,seval,wq,ah,ag,ak,aa,ab,af,ai,ae]
   rw[Vd hz2]
   simp
   exact hc1.drop
  ·have hz2:¬ w=0#32:=fun e=>hz (toNat_zero.2 e)
   rw[Va (fun h=>h.elim (by simp) hz2)] at hpk
   simp only at hpk
   have hwk:=Ng a (by unfold aS; omega) hW.bk i [sym] (by unfold aS; simp)
   have hwin:=sT hla hW.K8 i [sym]
   have hw0:0≤(fh a i [sym]).1:=by
    unfold fh
    split
    ·simp
    ·exact (yW (a:=a) _ _ (by omega) (by omega)).1
   simp (disch:=omega) only [↓wr,seval,wq,ah,ag,ak,aa,ab,af,ai,ae,hb1,eN]
   intro q hq
   refine aD.wM hwk (by kernel_rfl) (.bI _ fun j hj=>by
    match j,hj with
    | 0,_=>exact ⟨_,rfl⟩
    | 1,_=>exact ⟨_,rfl⟩) ⟨.tree (mb a),.tree (.val _),Li (l:=[sym]) (by simp[View.set]) rfl,trivial⟩ ?_
   have hc2:=hc1.fresh (o:=.arr 1 [[gi sym]]) hq
   have hx2:=hc2.SE (by simp)
   generalize H1.set q (.arr 1 [[gi sym]])=H2 at hc2 hx2 ⊢
   clear hc1 hb1 hx1 hq
   generalize (fh a i [sym]).1=to at *
   obtain ⟨ton,rfl⟩:∃ n:Nat,to=n:=⟨to.toNat,by omega⟩
   rw[Vv] at *
   simp (disch:=omega) only [↓wr,seval,wq,ah,ag,ak,aa,ab,af,ai,ae,hx2]
   refine aD.dP ((Dq g a _ _ vs ls ss more _ b H2 hc2 hsh hsm ton hwin ⟨x.aF,x.dot+1⟩ w).mono ?_)
   intro _ H3 hc3
   have hsh1:=iv hsh hwin ⟨x.aF,x.dot+1⟩ w
   have hle1:=kU hsh hwin ⟨x.aF,x.dot+1⟩ w
   generalize fg ls ss ton ⟨x.aF,x.dot+1⟩ w=ss1 at *
   have hb3:=hc3.box
   have hx3:=hc3.SE (by simp)
   simp (disch:=omega) only [↓wr,seval,wq,ah,ag,ak,aa,ab,af,ai,ae]
   refine av.dec (fun hs=>?_) (fun hs=>?_)
   ·simp (disch:=omega) only [↓wr,seval,wq,ah,ag,ak,aa,ab,af,ai,ae]
    rw[Va hz2,Vd hs]
    exact hc3.drop
   ·rw[Va hs] at hpk
    have hdl:=(qj hnx).1
    have hxe:=hxH.2
    have h64:∀ s∈dy g x,cm s:=by
     intro s hs
     unfold dy at hs
     split at hs
     ·have hR:g.rules[x.aF.toNat]?=some (aE g x.aF):=by unfold aE; exact getD_some (by have:=hxH.1; omega)
      exact (hW.Rh.aF _ (Vf hR)).2.2.2 s (List.mem_of_mem_drop hs)
     ·simp at hs
    have hsh12:(dy g x).length≤6:=by
     unfold dy
     split
     ·rename_i h0
      rw[aW,Va (by omega)] at hd6
      simp; omega
     ·simp
    have h2:=RY g hW.Rh (dy g x) w (by unfold aS; omega) h64
    rw[hrest w] at h2
    simp only[au,encS] at h2
    generalize hs2:ew (aA g false) (en g (aA g false)) w (dy g x)=s2 at *
    simp (disch:=omega) only [↓wr,seval,wq,ah,ag,ak,aa,ab,af,ai,ae,hx3]
    have key:∀ v12:V,dT H3 v12 (encI (dy g x))→nY H3 [.agg [.aK (g.ay.map b6),.aK (g.az.map fun s=>[gs s]),.aK (g.rules.map aO),gi g.start],v12,gw w] [.agg [.aK (g.ay.map b6),.aK (g.az.map fun s=>[gs s]),.aK (g.rules.map aO),gi g.start],encI (dy g x),gw w]:=fun v12 h =>
     ⟨.tree (cI _ (dH g)),h,.tree (.val _),trivial⟩
    refine av.dec (fun h0=>?_) (fun h0=>?_)
    have hR:g.rules[x.aF.toNat]?=some (aE g x.aF):=by unfold aE; exact getD_some (by have:=hxH.1; omega)
    have hrr:aW g x.aF=(aE g x.aF).right:=by rw[aW,Va (by omega)]
    rw[hrr] at hdl hxe
    have hsl:=CR (l:=(aE g x.aF).right) (k:=(x.dot+1).toNat) (by omega)
    rw[show (((x.dot+1).toNat:Nat):Int)=x.dot+1 by omega] at hsl
    have hre:dy g x=(aE g x.aF).right.drop (x.dot+1).toNat:=by rw[dy,Vd (by omega)]
    generalize aE g x.aF=R at hR hsl hre
    simp (disch:=omega) only [↓wr,seval,wq,ah,ag,ak,aa,ab,af,ai,ae,hx3,hb3,eN,Vc,hR,Vh,aO,encI,hsl]
    refine aD.wM h2 (by kernel_rfl) (.val _) (key _ (by rw[hre]; exact .tree (eP _))) ?_
    rotate_left
    have hre:dy g x=[]:=by rw[dy,Va (by omega)]
    simp (disch:=omega) only [↓wr,seval,wq,ah,ag,ak,aa,ab,af,ai,ae,hx3,hb3,eN]
    refine aD.wM h2 (by kernel_rfl) (.val _) (key _ (by rw[hre]; exact .nil)) ?_
    all_goals (
     simp (disch:=omega) only [↓wr,seval,wq,ah,ag,ak,aa,ab,af,ai,ae,hb3]
     refine aZ.up g.rules.length (fun q T H'=>cd H' b g a (.sl nl 0 ls.length 1) (.sl nu 0 ss.length 1) vs ls (eY g ls i sym s2 ss1 q) (more || decide (eY g ls i sym s2 ss1 q≠ss)) ((.sl bx 0 1 2,2,[[gi x.aF,gi x.dot]]) :: L)∧T 0=.ptr b 0 0∧T 1=gi i∧T 7=gw s2∧T 8=gi sym∧T 13=gi q) ⟨hc3,rfl,rfl,rfl,rfl,rfl⟩ ?_
     rintro q k2 T4 H4 hk2 ⟨hc4,t0,t1,t7,t8,t13⟩
     have hb4:=hc4.box
     simp (disch:=omega) only [↓wr,seval,wq,ah,ag,ak,aa,ab,af,ai,ae,kx,t0,t1,t7,t8,t13,hb4,eN]
     refine av.dec (fun hcq=>?_) (fun hcq=>?_)
     ·have hql:q < g.rules.length:=by omega
      have hR2:g.rules[q]?=some (aE g (q:Int)):=by unfold aE; rw[Vv]; exact getD_some hql
      have hL:=hf.left _ (Vf hR2)
      obtain ⟨hq1,hq2⟩:=jR (g:=g) hi sym s2 q ss1 hsh1
      have e1:eY g ls i sym s2 ss1 (q+1)=if (aE g (q:Int)).left = -1 - sym then fg ls (eY g ls i sym s2 ss1 q) i ⟨q,0⟩ s2 else eY g ls i sym s2 ss1 q:=by
       unfold eY
       rw[V0,VR]
       rfl
      generalize aE g (q:Int)=R at hR2 hL e1
      generalize eY g ls i sym s2 ss1 q=ssq at *
      simp (disch:=omega) only [↓wr,seval,wq,ah,ag,ak,aa,ab,af,ai,ae,t0,t1,t7,t8,t13,hb4,eN,Vc,hR2,Vh,aO]
      refine av.eq (fun he=>?_) (fun he=>?_)
      ·simp (disch:=omega) only [↓wr,seval,wq,ah,ag,ak,aa,ab,af,ai,ae,t0,t1,t7,t8,t13]
       refine aD.dP ((Dq g a _ _ vs ls _ _ _ b H4 hc4 hq1 hsm i hi ⟨q,0⟩ s2).mono ?_)
       intro _ H5 hc5
       simp (disch:=omega) only [↓wr,seval,wq,ah,ag,ak,aa,ab,af,ai,ae,t0,t1,t7,t8,t13]
       rw[Vd he] at e1
       rw[Bool.or_assoc,Hl (hle1.trans hq2) (kU hq1 hi _ _),← e1] at hc5
       exact aM hk2 hql ⟨hc5,t0,t1,t7,t8,rfl⟩
      ·simp (disch:=omega) only [↓wr,seval,wq,ah,ag,ak,aa,ab,af,ai,ae,t0,t1,t7,t8,t13]
       rw[Va he] at e1
       exact aM hk2 hql ⟨by rw[e1]; exact hc4,t0,t1,t7,t8,rfl⟩
     ·simp (disch:=omega) only [↓wr,seval,wq,ah,ag,ak,aa,ab,af,ai,ae]
      rw[Va hz2,Va hs]
      have hqe:q=g.rules.length:=by omega
      subst hqe
      exact hc4.drop)
section
variable {H:View} {b:Nat} {g:aw} {a:List aR} {ul us:V} {vs:List V} {ls:List (List aH)} {ss:Sets} {more:Bool} {L:List cz}
theorem cd.goApp {u:V} {sz bytes:Nat} {es xs:List (List V)} {K:V→View→Prop} {w:cD (H,K)} (hc:cd H b g a ul us vs ls ss more ((u,sz,es) :: L)) (hok:(xs.all fun e=>e.length == sz && e.all aU)=true)
  (hl:(es.length+xs.length) * bytes < aJ) (hl2:es.length+xs.length < aJ) (hk:∀ u' H',cd H' b g a ul us vs ls ss more ((u',sz,es ++ xs) :: L)→K u' H'):mB sz bytes u xs H K w :=
 cn (hc.own.perm nr) hok hl hl2 fun u' H' ho _=>hk u' H' ⟨hc.len,ho.perm nr.symm⟩
theorem cd.emp (h:cd H b g a ul us vs ls ss more L) (k sz:Nat):cd H b g a ul us vs ls ss more ((.emp k,sz,[]) :: L):=⟨h.len,(h.own.emp (k:=k) (sz:=sz)).perm nr.symm⟩
theorem cd.Rj {u:V} {sz:Nat} {es:List (List V)} (h:cd H b g a ul us vs ls ss more ((u,sz,es) :: L)):ba H u sz es:=(h.own.perm nr).head
theorem cd.Q3 {L':List cz} (h:cd H b g a ul us vs ls ss more L) (p:L.Perm L'):cd H b g a ul us vs ls ss more L':=⟨h.len,h.own.perm (((p.append_left _).cons _).cons _ |>.cons _)⟩
end
theorem Pd (a:List aR):V.cells (bm a)=[bm a]:=id rfl
theorem Tg (a:List aR):aU (bm a)=true:=id rfl
def ga (ls:List (List aH)):Sets:=ls.map fun l=>List.replicate l.length 0
theorem OU (ls:List (List aH)):j4 ls (ga ls):=by
 refine ⟨by simp[ga],fun i=>?_⟩
 simp only[ga,U8,Vc]
 cases ls[i]? <;> simp
theorem Fk (ls:List (List aH)) (i k:Nat):dQ (ga ls) i k=0:=by
 simp only[dQ,ga,U8,Vc]
 cases ls[i]? with
 | none=>simp
 | some l =>
  simp only[Vh,Vs,WT]
  split <;> rfl
theorem Hg:∀ {vs:List V} {ss:Sets} (v:V) (r:List BV),vs.length=ss.length→uU (vs ++ [v]) (ss ++ [r])=uU vs ss ++ [(v,1,bT r)]
 | [],[],v,r,_=>rfl
 | [],_ :: _,_,_,h=>by simp at h
 | _ :: _,[],_,_,h=>by simp at h
 | x :: vs,s :: ss,v,r,h=>by
  simp only[VL,uU,Hg v r (show vs.length=ss.length by simpa using h)]
theorem Po {g:aw} {a:List aR} (hla:(aY g a).length=a.length) (h1:1≤a.length) {ss:Sets} (hs:j4 (aY g a) ss) (hd:kJ g (aA g false) a (aY g a) ss) (h0:∀ k,((aY g a).getD 0 [])[k]?=some ⟨-1,0⟩→(dQ ss 0 k).getLsbD g.ay.length=true)
  (hf:∀ i k,i < (aY g a).length→k < ((aY g a).getD i []).length→iN g (aA g false) a (aY g a) i k ss=ss) {i k:Nat} {x:aH} (hx:((aY g a).getD i [])[k]?=some x):dQ ss i k=rh g a i x:=by
 classical
 refine vY fun t ht=>?_
 rw[We]
 unfold rh
 rw[AO _ 32 t (Vj _)]
 simp only[Vo]
 exact ⟨fun h=>⟨ht,hd i k x t hx h⟩,fun h=>MA hla h1 hs h0 hf h.2 k hx⟩
def CQ (p:eM):List V:=[gi p.aF,gw p.set]
def jG (l:List eM):List (List V):=l.map CQ
def iD (l:List (List eM)):V:=.aK (l.map fun r=>[.aK (jG r)])
theorem R6 (l:List eM):Tree (.aK (jG l)):=fa _ _ fun x _ v hv=>by simp[CQ] at hv; rcases hv with rfl | rfl <;> exact .val _
theorem IM (l:List (List eM)):Tree (iD l):=fa _ _ fun x _ v hv=>by simp at hv; subst hv; exact R6 x
abbrev GQ:=List (V × List eM)
def kT (B:GQ):List cz:=B.map fun x=>(x.1,2,jG x.2)
theorem Kl {h:aL} {u:V} {B:GQ} (ho:ba h.view u 1 (bQ B)) (hb:∀ x∈B,ba h.view x.1 2 (jG x.2)):eu h u (iD (B.map (·.2))):=by
 have hg:∀ i (hi:i < B.length),(bQ B).getD i []=[(B[i]).1]∧(((B.map (·.2)).map fun r=>[V.aK (jG r)]).getD i [])=[.aK (jG (B[i]).2)]:=fun i hi=>by
  simp[bQ,U8,hi]
 refine eu.own ho (by simp[bQ]) (fun i hi=>?_) (fun i j hi hj=>?_)
 ·have hi':i < B.length:=by simpa [bQ] using hi
  rw[(hg i hi').1,(hg i hi').2]; rfl
 ·have hi':i < B.length:=by simpa [bQ] using hi
  rw[(hg i hi').2] at hj ⊢
  rw[(hg i hi').1]
  have:j=0:=by simp at hj; omega
  subst this
  simp only[Wh]
  have hx:=hb _ (Vi hi')
  generalize (B[i]'hi').2=l at hx
  refine eu.own hx rfl (fun i _=>rfl) (fun i j hi hj=>?_)
  simp only[jG,Vg] at hi
  have e:(jG l).getD i []=CQ l[i]:=by simp[jG,U8,hi]
  rw[e] at hj ⊢
  match j,hj with
  | 0,_=>exact .val _
  | 1,_=>exact .val _
def qk:SC :=
 .seq (.seq (ao [aj 29 7,aj 30 4,aX 31 30,bc 32 .lss 29 31]) <|
 .cond (.tmp 32) (.skip) (.exit 0)) <|
 .seq (.block 1 (.seq (ao [bp 35 4 1,aj 36 4,aj 37 7,aP 38 2 36 37,aB 39 0 38,ax 40 39,bC 41 23 [35,40],aj 8 41]) <|
 .seq (ao [aj 42 6,aj 43 6,dg 44 43,aB 45 5 44,ax 46 45,aj 47 8,((some 48),.op (.cg 1 1 [(.emp 1)] [(0,(.tmp 47))])),((some 49),.op (.app 1 24 (.tmp 46) (.tmp 48))),dg 50 42,aB 51 5 50,(none,.op (.store 1 (.tmp 51) (.tmp 49)))]) <|
 ao [aj 52 6,aj 53 6,dg 54 53,aB 55 6 54,ax 56 55,aj 57 8,aX 58 57,((some 59),.op (.make 1 4 [(.val (.int .u32 0))] (.tmp 58) (.tmp 58))),((some 60),.op (.cg 1 1 [(.emp 1)] [(0,(.tmp 59))])),((some 61),.op (.app 1 24 (.tmp 56) (.tmp 60))),dg 62 52,aB 63 6 62,(none,.op (.store 1 (.tmp 63) (.tmp 61)))])) <|
 ao [aj 33 7,aQ 34 .add 33 1,aj 7 34]
def qM:SC :=
 .seq (.seq (ao [aj 84 10,aj 85 6,dg 86 85,aB 87 5 86,ax 88 87,aj 89 9,aP 90 1 88 89,ax 91 90,aX 92 91,bc 93 .lss 84 92]) <|
 .cond (.tmp 93) (.skip) (.exit 6)) <|
 .seq (.block 7 (ao [aj 96 6,aj 97 9,aj 98 10,bC 99 78 [96,97,98]])) <|
 ao [aj 94 10,aQ 95 .add 94 1,aj 10 95]
def ql:SC :=
 .seq (.seq (ao [aj 78 9,aj 79 4,aX 80 79,bc 81 .lss 78 80]) <|
 .cond (.tmp 81) (.skip) (.exit 4)) <|
 .seq (.block 5 (.seq (ao [bj 10 0]) <|
 .block 6 (.loop qM))) <|
 ao [aj 82 9,aQ 83 .add 82 1,aj 9 83]
def qX:SC :=
 .seq (.seq (ao [aj 71 6,dg 72 71,aB 73 7 72,ax 74 73]) <|
 .cond (.tmp 74) (.skip) (.exit 2)) <|
 .block 3 (.seq (ao [aj 75 6,dg 76 75,aB 77 7 76,(none,.op (.store 1 (.tmp 77) (.val (.val (.bool false)))))]) <|
 .seq (ao [bj 9 0]) <|
 .block 4 (.loop ql))
def qx:SC :=
 .seq (.seq (ao [aj 106 14,aj 107 6,dg 108 107,aB 109 5 108,ax 110 109,aj 111 12,aP 112 1 110 111,ax 113 112,aX 114 113,bc 115 .lss 106 114]) <|
 .cond (.tmp 115) (.skip) (.exit 10)) <|
 .seq (.block 11 (.seq (ao [bp 119 4 1,aj 120 6,dg 121 120,aB 122 5 121,ax 123 122,aj 124 12,aP 125 1 123 124,ax 126 125,aj 127 14,aP 128 2 126 127,bp 129 2 128,bC 130 18 [119,129],aj 118 130,fK 131 0 118,fK 132 1 118,aj 15 131,aj 16 132]) <|
 .seq (.region false [⟨none,[aj 133 16,dd 134 133,aj 135 134]⟩,⟨(some (135,true)),[aj 136 6,dg 137 136,aB 138 5 137,ax 139 138,aj 140 12,aP 141 1 139 140,ax 142 141,aj 143 14,aP 144 2 142 143,aB 145 0 144,ax 146 145,aQ 147 .geq 146 0]⟩,⟨none,[eF 148 135 147]⟩]) <|
 .cond (.tmp 148) (ao [aj 149 13,aj 150 6,dg 151 150,aB 152 5 151,ax 153 152,aj 154 12,aP 155 1 153 154,ax 156 155,aj 157 14,aP 158 2 156 157,aB 159 0 158,ax 160 159,aj 161 6,dg 162 161,aB 163 6 162,ax 164 163,aj 165 12,aP 166 1 164 165,ax 167 166,aj 168 14,aP 169 1 167 168,ax 170 169,((some 171),.op (.build [(.val (.int .i64 0)),(.val (.int .u32 0))] [(0,1,(.tmp 160)),(1,1,(.tmp 170))])),((some 172),.op (.cg 1 2 [(.val (.int .i64 0)),(.val (.int .u32 0))] [(0,(.tmp 171))])),((some 173),.op (.app 2 16 (.tmp 149) (.tmp 172))),aj 13 173]) (.skip))) <|
 ao [aj 116 14,aQ 117 .add 116 1,aj 14 117]
def qR:SC :=
 .seq (.seq (ao [aj 100 12,aj 101 4,aX 102 101,bc 103 .lss 100 102]) <|
 .cond (.tmp 103) (.skip) (.exit 8)) <|
 .seq (.block 9 (.seq (ao [((some 13),.op (.bL (.val (.emp 1))))]) <|
 .seq (.seq (ao [bj 14 0]) <|
 .block 10 (.loop qx)) <|
 ao [aj 174 11,aj 175 13,((some 176),.op (.cg 1 1 [(.emp 1)] [(0,(.tmp 175))])),((some 177),.op (.app 1 24 (.tmp 174) (.tmp 176))),aj 11 177])) <|
 ao [aj 104 12,aQ 105 .add 104 1,aj 12 105]
def tf:SF:=⟨.seq (ao [cL 1 0,((some 2),.op (.bL (.val (.emp 1)))),bj 3 0]) <|
 .seq (ao [bp 18 4 1,bC 19 25 [18],aj 17 19,fK 20 0 17,fK 21 1 17,aj 4 20,aj 5 21]) <|
 .seq (.seq (ao [aj 22 5,aQ 23 .neq 22 0]) <|
 .cond (.tmp 23) (.seq (ao [aj 24 5,((some 2),.op (.bL (.val (.emp 1)))),aj 3 24]) <|
 .ret) (.skip)) <|
 .seq (ao [bp 25 4 1,aj 26 4,((some 27),.op (.build [(.emp 1),(.emp 1),(.emp 1),(.val (.int .i64 0)),(.emp 1),(.emp 1),(.emp 1),(.val (.bool false))] [(0,4,(.tmp 25)),(4,1,(.tmp 26))])),((some 28),.op (.box (.tmp 27))),aj 6 28]) <|
 .seq (.seq (ao [bj 7 0]) <|
 .block 0 (.loop qk)) <|
 .seq (ao [aj 64 6,((some 65),.op (.build [(.val (.int .i64 0)),(.val (.int .i64 0))] [(0,1,(.val (.val (.int .i64 (-1)))))])),aB 66 0 1,ax 67 66,aX 68 67,bC 69 77 [68],oc 70 76 [(.tmp 64),(.val (.val (.int .i64 0))),(.tmp 65),(.tmp 69)]]) <|
 .seq (.block 2 (.loop qX)) <|
 .seq (ao [((some 11),.op (.bL (.val (.emp 1))))]) <|
 .seq (.seq (ao [bj 12 0]) <|
 .block 8 (.loop qR)) <|
 .seq (ao [aj 178 11,aj 2 178,bj 3 0]) <|
 .ret,
 [.tmp 2,.tmp 3],179⟩
theorem xZ:aV Tryz.prog 34 [1]=some tf:=by kernel_rfl
theorem Mz {g:aw} {a:List aR} {i:Nat} {s:aR} (h:a[i]?=some s):(aY g a)[i]?=some (cw g s.bh):=by rw[aY,Vc,h]; rfl
theorem LK {g:aw} (hg:g.Ok) (h:(cG g).2=0):Of g (cG g).1 (aY g (cG g).1)∧BH g (cG g).1:=by
 have hr:isRed g=true:=Wi fun hn=>by
  unfold cG at h; rw[Va hn] at h; simp at h
 have hf:=oo hr
 obtain ⟨hA,h1,h2⟩:=A3 hf h
 refine ⟨⟨hg,ka hr,by simp[aY],h1,h2,fun s hs=>⟨by unfold aS; have:=hA.bk s hs; omega,fun e he=>?_⟩,fun l hl=>?_⟩,hA⟩
 ·have h3:=hA.to s hs e he
  have h4:=hA.sym s hs e he
  unfold cm; omega
 ·obtain ⟨s,hs,rfl⟩:=Vw.1 hl
  have hk:=(hA.bh s hs).2.2
  exact ⟨by have:=Fm hf hk; omega,fun x hx=>((cY hf hk).1 hx).has hk⟩
def UT (g:aw) (a:List aR) (b:Nat) (ul us:V) (vs:List V) (m:Nat) (T:Env) (H:View):Prop:=∃ (ss:Sets) (more:Bool),m=(QM (aY g a) - zg ss)+(if more then 1 else 0)∧cd H b g a ul us vs (aY g a) ss more []∧j4 (aY g a) ss∧kJ g (aA g false) a (aY g a) ss ∧
 (∀ k,((aY g a).getD 0 [])[k]?=some ⟨-1,0⟩→(dQ ss 0 k).getLsbD g.ay.length=true)∧(more=false→∀ i k,i < (aY g a).length→k < ((aY g a).getD i []).length→iN g (aA g false) a (aY g a) i k ss=ss) ∧
 T 1=.aN (au g) 0∧T 4=bm a∧T 6=.ptr b 0 0
set_option maxHeartbeats 16000000 in
theorem RL (g:aw) (hg:g.Ok):cR Tryz.prog 34 [.agg (au g)] (.bI [iD (pT g).1,gi (pT g).2]):=by
 refine cR.of (dZ g) ?_
 have hB:=(KN g hg).pure
 refine aC.of mixed xZ ?_
 simp only[au,encS] at hB
 simp (disch:=omega) only [↓wr,seval,wq,ah,ag,ak,aa,ab,af,ai,ae,tf,au,encS]
 refine aD.pure hB (by kernel_rfl) ?_
 unfold pT
 simp (disch:=omega) only [↓wr,seval,wq,ah,ag,ak,aa,ab,af,ai,ae]
 refine av.ne (fun h=>?_) (fun h=>?_)
 ·simp (disch:=omega) only [↓wr,seval,wq,ah,ag,ak,aa,ab,af,ai,ae]
  intro h' _
  rw[Va h]
  exact j9 (.emp _)
 rw[Vd h]
 obtain ⟨hW,hA⟩:=LK hg h
 generalize (cG g).1=a at *
 clear hB h
 have hf:=bO hW.right
 have h300:=hW.short
 have hT:=hf.ay
 simp (disch:=omega) only [↓wr,seval,wq,ah,ag,ak,aa,ab,af,ai,ae,au,encS,Pd,Tg]
 intro b
 have c0:cd (View.set (fun _=>cZ.dead) b (.arr 8 [eN g a (.emp 1) (.emp 1) false])) b g a (.emp 1) (.emp 1) [] ((aY g a).take 0) (ga ((aY g a).take 0)) false [] :=
  ⟨rfl,(((bt.nil.new (n:=b) (H:=fun _=>cZ.dead) rfl 8 [eN g a (.emp 1) (.emp 1) false]).emp (k:=1) (sz:=1)).emp (k:=1) (sz:=1)).perm HZ.symm⟩
 simp only[eN] at c0
 generalize (View.set (fun _=>cZ.dead) b (.arr 8 [[V.aK (g.ay.map b6),.aK (g.az.map fun s=>[gs s]),.aK (g.rules.map aO),gi g.start,bm a,.emp 1,.emp 1,gb false]]))=H0 at c0 ⊢
 refine aZ.up a.length (fun i T H'=>∃ (ul us:V) (vs:List V),cd H' b g a ul us vs ((aY g a).take i) (ga ((aY g a).take i)) false []∧T 1=.aN (au g) 0∧T 4=bm a∧T 6=.ptr b 0 0∧T 7=gi i) ⟨_,_,_,c0,rfl,rfl,rfl,rfl⟩ ?_
 clear c0
 rintro i k T H hk ⟨ul,us,vs,hc,t1,t4,t6,t7⟩
 simp (disch:=omega) only [↓wr,seval,wq,ah,ag,ak,aa,ab,af,ai,ae,qk,t1,t4,t6,t7,bm]
 refine av.dec (fun hci=>?_) (fun hci=>?_)
 ·have hs:a[i]?=some (a[i]'(by omega)):=U9 (by omega)
  have hcl:=Mz (g:=g) hs
  obtain ⟨k1,k2,k3⟩:=hA.bh _ (Vi (show i < a.length by omega))
  generalize a[i]'(by omega)=s at hs hcl k1 k2 k3
  have hkl:=hX hf k1 k3
  have hC:=(GL g hg s.bh (by omega) (fun x hx=>wT hf (k3 x hx))).pure
  rw[List.filter_eq_self.2 fun x hx=>nZ.2 ⟨hW.right,k3 x hx⟩] at hC
  have hcd:=Fm hf k3
  have hne:cw g s.bh≠[]:=fun e=>by
   cases hk:s.bh with
   | nil=>exact k2 hk
   | cons x r =>
    have:=(cY hf k3).2 (.base (show x∈s.bh by rw[hk]; simp))
    rw[e] at this; simp at this
  generalize cw g s.bh=cl at *
  have htk:(aY g a).take (i+1)=(aY g a).take i ++ [cl]:=by rw[Vx,hcl]; rfl
  have hlt:((aY g a).take i).length≤300:=by rw[VQ]; have:=hW.len; omega
  simp only[au,encS] at hC
  simp (disch:=omega) only [↓wr,seval,wq,ah,ag,ak,aa,ab,af,ai,ae,t1,t4,t6,t7,au,encS,bm,Vc,hs,Vh,iO]
  refine aD.pure hC (by kernel_rfl) ?_
  have hb:=hc.box
  simp (disch:=omega) only [↓wr,seval,wq,ah,ag,ak,aa,ab,af,ai,ae,t1,t4,t6,t7,hb,eN]
  intro q hq
  simp (disch:=omega) only [↓wr,seval,wq,ah,ag,ak,aa,ab,af,ai,ae,bV]
  have o1:=(hc.own.fresh (o:=.arr 1 [[.aK (aT cl)]]) hq).at 1 (by simp)
  refine cn o1 (by simp[aU]) (by unfold aJ; simp only[WG,Wv,kc]; simp; omega) (by unfold aJ; simp only[WG,Wv,kc]; simp; omega) ?_
  intro ul2 H2 o2 _
  simp only[WG,Wv,Wf,Wg] at o2
  have hb2:=o2.is 1 rfl (by simp)
  have o3:=(o2.perm (.swap _ _ _)).put (es':=[eN g a ul2 us false]) rfl rfl
  have cu:=o2.head.cells
  have ku:=o2.head.gR
  simp only[eN] at o3 hb2
  clear o1 o2 hq hb
  simp (disch:=omega) only [↓wr,seval,wq,ah,ag,ak,aa,ab,af,ai,ae,t1,t4,t6,t7,hb2,cu,ku,bJ]
  have hcl0:cl.length≠0:=fun e=>hne (Ws.1 e)
  refine ⟨⟨Vj _,by unfold aJ; omega,by unfold aJ; omega⟩,fun hz=>absurd hz hcl0,fun _ nm hnm=>?_⟩
  have o4:=o3.new (n:=nm) (by simpa [View.set] using hnm) 1 (List.replicate cl.length [.val (.int .u32 0)])
  rw[WO] at o4
  intro q2 hq2
  simp (disch:=omega) only [↓wr,seval,wq,ah,ag,ak,aa,ab,af,ai,ae,bV,t1,t4,t6,t7]
  have o5:=(o4.fresh (n:=q2) (o:=.arr 1 [[.sl nm 0 cl.length 1]]) (by simpa [View.set] using hq2)).at 3 (by simp)
  refine cn o5 (by simp[aU]) (by unfold aJ; simp only[WG,Wv,Vg]; simp; have:=hc.len; simp[ga] at this; omega) (by unfold aJ; simp only[WG,Wv,Vg]; simp; have:=hc.len; simp[ga] at this; omega) ?_
  intro us2 H5 o6 _
  simp only[WG,Wv,Wf,Wg] at o6
  have hb6:=o6.is 2 rfl (by simp)
  have cu2:=o6.head.cells
  have ku2:=o6.head.gR
  simp (disch:=omega) only [↓wr,seval,wq,ah,ag,ak,aa,ab,af,ai,ae,t1,t4,t6,t7,hb6,cu2,ku2]
  have o7:=(o6.at 2 (by simp)).put (es':=[eN g a ul2 us2 false]) rfl rfl
  simp only[WG,Wv,Wf,Wg] at o7
  refine aM hk (by omega) ⟨ul2,us2,vs ++ [.sl nm 0 cl.length 1],⟨?_,?_⟩,t1,t4,t6,rfl⟩
  ·have:=hc.len
   rw[htk]; simp[ga] at this ⊢; exact this
  ·have e1:xU ((aY g a).take i ++ [cl])=xU ((aY g a).take i) ++ [[.aK (aT cl)]]:=by simp[xU]
   have e2:ga ((aY g a).take i ++ [cl])=ga ((aY g a).take i) ++ [List.replicate cl.length 0]:=by simp[ga]
   have e3:(List.replicate cl.length [V.val (.int .u32 0)])=bT (List.replicate cl.length (0:BV)):=by simp
   rw[htk,e1,e2,Hg _ _ hc.len,VB,Wx]
   rw[e3,Wx] at o7
   exact o7.perm (.cons _ ((VS (l₁:=[_,_])).trans (.cons _ (.cons _ (W9 _ _).symm))))
 rw[Vq (by have:=hW.len; omega)] at hc
 have hfx:=fun m=>hW.item m
 simp (disch:=omega) only [↓wr,seval,wq,ah,ag,ak,aa,ab,af,ai,ae,t1,t4,t6,au]
 refine aD.pure (Ga (g.ay.length:Int)) (by kernel_rfl) ?_
 simp (disch:=omega) only [↓wr,seval,wq,ah,ag,ak,aa,ab,af,ai,ae,t1,t4,t6]
 have hzs:=OU (aY g a)
 have hl0:0 < (aY g a).length:=by have:=hW.len; have:=hW.K8; omega
 refine aD.dP ((Dq g a ul us vs (aY g a) (ga (aY g a)) false [] b H hc hzs (fun l hl=>(hW.item l hl).1) 0 hl0 ⟨-1,0⟩ (dN g.ay.length)).mono ?_)
 intro _ H1 hc1
 have hbit:∀ t,(dN (g.ay.length:Int)).getLsbD t=true↔t=g.ay.length:=fun t=>by
  rw[dN,Vd (by omega),Wz]
  simp only[Vv,Vm,Vo]
  omega
 have hs1:=iv hzs hl0 ⟨-1,0⟩ (dN g.ay.length)
 have hd1:kJ g (aA g false) a (aY g a) (fg (aY g a) (ga (aY g a)) 0 ⟨-1,0⟩ (dN g.ay.length)):=by
  refine uE hzs (fun i k x t _ h=>by rw[Fk] at h; simp at h) hl0 fun t ht hm=>?_
  rw[(hbit t).1 ht]
  exact .start hm
 have h01:∀ k,((aY g a).getD 0 [])[k]?=some ⟨-1,0⟩→(dQ (fg (aY g a) (ga (aY g a)) 0 ⟨-1,0⟩ (dN g.ay.length)) 0 k).getLsbD g.ay.length=true:=fun k hk=>by
  rw[tR hzs hl0,Vd ⟨rfl,hk⟩,VM,(hbit _).2 rfl,Bool.or_true]
 have hf1:(false || decide (fg (aY g a) (ga (aY g a)) 0 ⟨-1,0⟩ (dN g.ay.length)≠ga (aY g a)))=false→∀ i k,i < (aY g a).length→k < ((aY g a).getD i []).length→iN g (aA g false) a (aY g a) i k (fg (aY g a) (ga (aY g a)) 0 ⟨-1,0⟩ (dN g.ay.length))=fg (aY g a) (ga (aY g a)) 0 ⟨-1,0⟩ (dN g.ay.length):=fun h i k _ _=>by
  simp only[Xn,Wp,Classical.not_not] at h
  rw[h,iN,Vd (.inr (Fk _ _ _))]
 generalize fg (aY g a) (ga (aY g a)) 0 ⟨-1,0⟩ (dN g.ay.length)=ss1 at *
 generalize (false || decide (ss1≠ga (aY g a)))=more1 at *
 simp (disch:=omega) only [↓wr,seval,wq,ah,ag,ak,aa,ab,af,ai,ae,t1,t4,t6]
 refine aZ.intro (UT g a b ul us vs) _ ⟨ss1,more1,rfl,hc1,hs1,hd1,h01,hf1,t1,t4,t6⟩ ?_
 clear hc hc1 hs1 hd1 h01 hf1 t1 t4 t6 t7 hzs hci hk
 rintro m T2 H2 ⟨ss0,more0,rfl,hc,hsh,hd,h0,hfix,t1,t4,t6⟩
 have hb:=hc.box
 have hla:=hW.len
 have h1l:=hW.K8
 obtain ⟨nl,rfl,_⟩:=hc.lists (by omega)
 simp (disch:=omega) only [↓wr,seval,wq,ah,ag,ak,aa,ab,af,ai,ae,qX,t1,t4,t6,hb,eN]
 refine av.split (fun hm=>?_) (fun hm=>?_)
 ·have hc1:=hc.flag false
  simp only[eN] at hc1
  simp (disch:=omega) only [↓wr,seval,wq,ah,ag,ak,aa,ab,af,ai,ae,t1,t4,t6,hb,eN]
  refine aZ.up a.length (fun i T H'=>∃ ss:Sets,cd H' b g a (.sl nl 0 (aY g a).length 1) us vs (aY g a) ss (decide (ss≠ss0)) []∧j4 (aY g a) ss∧kJ g (aA g false) a (aY g a) ss∧j0 ss0 ss ∧
   (ss=ss0→∀ i' k,i' < i→k < ((aY g a).getD i' []).length→iN g (aA g false) a (aY g a) i' k ss0=ss0)∧T 1=.aN (au g) 0∧T 4=bm a∧T 6=.ptr b 0 0∧T 9=gi i)
   ⟨ss0,by rw[decide_eq_false (by simp)]; exact hc1,hsh,hd,.refl,fun _ i' k h=>by omega,t1,t4,t6,rfl⟩ ?_
  clear hc1 t1 t4 t6 hb
  rintro i k2 T3 H3 hk2 ⟨ss,hc3,hs3,hd3,hle3,hf3,t1,t4,t6,t9⟩
  simp (disch:=omega) only [↓wr,seval,wq,ah,ag,ak,aa,ab,af,ai,ae,ql,t1,t4,t6,t9,bm]
  refine av.dec (fun hci=>?_) (fun hci=>?_)
  ·have hil:i < (aY g a).length:=by omega
   have h10:=(hW.item _ (Vf (getD_some (d:=[]) hil))).1
   simp (disch:=omega) only [↓wr,seval,wq,ah,ag,ak,aa,ab,af,ai,ae,t1,t4,t6,t9]
   refine aZ.up ((aY g a).getD i []).length (fun k T H'=>∃ ss:Sets,cd H' b g a (.sl nl 0 (aY g a).length 1) us vs (aY g a) ss (decide (ss≠ss0)) []∧j4 (aY g a) ss∧kJ g (aA g false) a (aY g a) ss∧j0 ss0 ss ∧
    (ss=ss0→(∀ i' k,i' < i→k < ((aY g a).getD i' []).length→iN g (aA g false) a (aY g a) i' k ss0=ss0)∧∀ k',k' < k→iN g (aA g false) a (aY g a) i k' ss0=ss0)∧T 1=.aN (au g) 0∧T 4=bm a∧T 6=.ptr b 0 0∧T 9=gi i∧T 10=gi k)
    ⟨ss,hc3,hs3,hd3,hle3,fun e=>⟨hf3 e,fun k' h=>by omega⟩,t1,t4,t6,t9,rfl⟩ ?_
   clear hc3 hs3 hd3 hle3 hf3 t1 t4 t6 t9
   rintro k k3 T4 H4 hk3 ⟨ss,hc4,hs4,hd4,hle4,hf4,t1,t4,t6,t9,t10⟩
   have hb4:=hc4.box
   have hnl:=(hc4.DU (by omega)).1
   have hlg:=CY hil
   simp (disch:=omega) only [↓wr,seval,wq,ah,ag,ak,aa,ab,af,ai,ae,qM,t1,t4,t6,t9,t10,hb4,eN,hnl,hlg,kc,bJ]
   refine ⟨hil,hil,?_⟩
   refine av.dec (fun hck=>?_) (fun hck=>?_)
   ·have hkl:k < ((aY g a).getD i []).length:=by omega
    simp (disch:=omega) only [↓wr,seval,wq,ah,ag,ak,aa,ab,af,ai,ae,t1,t4,t6,t9,t10]
    refine aD.dP ((RV g a _ us vs (aY g a) ss _ [] b H4 hW hc4 hs4 i k hil hkl).mono ?_)
    intro _ H5 hc5
    obtain ⟨p1,p2⟩:=Gr (g:=g) (null:=aA g false) hla h1l hil k hs4
    have p3:=IX hla h1l hil hkl hs4 hd4
    rw[Hl hle4 p2] at hc5
    simp (disch:=omega) only [↓wr,seval,wq,ah,ag,ak,aa,ab,af,ai,ae,t1,t4,t6,t9,t10]
    refine aM hk3 hkl ⟨_,hc5,p1,p3,hle4.trans p2,fun e=>?_,t1,t4,t6,t9,rfl⟩
    have e1:ss=ss0:=j0.sU (Eq.mp (Wj (j0 ss) e) p2) hle4
    subst e1
    refine ⟨(hf4 rfl).1,fun k' hk'=>?_⟩
    rcases Vy k' k with hlt | hge
    ·exact (hf4 rfl).2 k' hlt
    ·have:k'=k:=by omega
     subst this
     exact e
   ·simp (disch:=omega) only [↓wr,seval,wq,ah,ag,ak,aa,ab,af,ai,ae,t1,t4,t6,t9]
    refine aM hk2 (by omega) ⟨ss,hc4,hs4,hd4,hle4,fun e i' k' hi' hk'=>?_,t1,t4,t6,rfl⟩
    rcases Vy i' i with hlt | hge
    ·exact (hf4 e).1 i' k' hlt hk'
    ·have:i'=i:=by omega
     subst this
     exact (hf4 e).2 k' (by omega)
  ·simp (disch:=omega) only [↓wr,seval,wq,ah,ag,ak,aa,ab,af,ai,ae,t1,t4,t6]
   have q1:=Ke hle3
   have q2:=Gf hs3
   refine ⟨_,?_,ss,decide (ss≠ss0),rfl,hc3,hs3,hd3,fun k hk=>hle3.2.2 0 k _ (h0 k hk),fun e=>?_,t1,t4,t6⟩
   ·rw[hm]
    by_cases e:ss=ss0
    ·subst e; simp
    ·have:=q1.2 (fun h=>e h.symm)
     simp[e]; omega
   ·have e2:ss=ss0:=by simpa using e
    have h3:=hf3 e2
    rw[e2]
    exact fun i k hi hk=>h3 i k (by omega) hk
 ·have hfixed:=hfix hm
  subst hm
  have hset:=fun i k x=>Po (i:=i) (k:=k) (x:=x) hla h1l hsh hd h0 hfixed
  obtain ⟨nu,rfl,_⟩:=hc.LJ (by rw[hsh.1]; omega)
  simp (disch:=omega) only [↓wr,seval,wq,ah,ag,ak,aa,ab,af,ai,ae,t1,t4,t6]
  refine aZ.up a.length (fun i T H'=>∃ (uo:V) (B:GQ),B.map (·.2)=(rJ g a).take i∧cd H' b g a (.sl nl 0 (aY g a).length 1) (.sl nu 0 ss0.length 1) vs (aY g a) ss0 false ((uo,1,bQ B) :: kT B)∧T 1=.aN (au g) 0∧T 4=bm a∧T 6=.ptr b 0 0∧T 11=uo∧T 12=gi i)
   ⟨.emp 1,[],by simp,hc.emp 1 1,t1,t4,t6,rfl,rfl⟩ ?_
  clear hc t1 t4 t6 hb
  rintro i k2 T3 H3 hk2 ⟨uo,B,hB,hc3,t1,t4,t6,t11,t12⟩
  simp (disch:=omega) only [↓wr,seval,wq,ah,ag,ak,aa,ab,af,ai,ae,qR,t1,t4,t6,t11,t12,bm]
  refine av.dec (fun hci=>?_) (fun hci=>?_)
  ·have hil:i < (aY g a).length:=by omega
   have h10:=(hW.item _ (Vf (getD_some (d:=[]) hil))).1
   simp (disch:=omega) only [↓wr,seval,wq,ah,ag,ak,aa,ab,af,ai,ae,t1,t4,t6,t11,t12]
   refine aZ.up ((aY g a).getD i []).length (fun k T H'=>∃ u1:V,cd H' b g a (.sl nl 0 (aY g a).length 1) (.sl nu 0 ss0.length 1) vs (aY g a) ss0 false ((u1,2,jG ((((aY g a).getD i []).take k).filterMap fun x=>if (bA g x).2=false∧0≤x.aF then some ⟨x.aF,rh g a i x⟩ else none)) :: (uo,1,bQ B) :: kT B) ∧
    T 1=.aN (au g) 0∧T 4=bm a∧T 6=.ptr b 0 0∧T 11=uo∧T 12=gi i∧T 13=u1∧T 14=gi k)
    ⟨.emp 1,hc3.emp 1 2,t1,t4,t6,t11,t12,rfl,rfl⟩ ?_
   clear hc3 t1 t4 t6 t11 t12
   rintro k k3 T4 H4 hk3 ⟨u1,hc4,t1,t4,t6,t11,t12,t13,t14⟩
   have hb4:=hc4.box
   have hnl:=(hc4.DU (by omega)).1
   have hlg:=CY hil
   simp (disch:=omega) only [↓wr,seval,wq,ah,ag,ak,aa,ab,af,ai,ae,qx,t1,t4,t6,t11,t12,t13,t14,hb4,eN,hnl,hlg,kc,bJ]
   refine ⟨hil,hil,?_⟩
   refine av.dec (fun hck=>?_) (fun hck=>?_)
   ·have hkl:k < ((aY g a).getD i []).length:=by omega
    have hx:((aY g a).getD i [])[k]?=some (((aY g a).getD i [])[k]'hkl):=U9 hkl
    have hxH:=(hW.item _ (Vf (getD_some (d:=[]) hil))).2 _ (Vi hkl)
    have htk:((aY g a).getD i []).take (k+1)=((aY g a).getD i []).take k ++ [((aY g a).getD i [])[k]'hkl]:=by rw[Vx,hx]; rfl
    generalize ((aY g a).getD i [])[k]'hkl=x at hx hxH htk
    have hN:=EI g hW.Rh x (wT hf hxH)
    rw[CH,Vd (nZ.2 ⟨hW.right,hxH⟩)] at hN
    have hsx:=hset i k x hx
    have hvs:vs[i]?=some (vs[i]'(by rw[hc4.len,hsh.1]; exact hil)):=U9 _
    generalize vs[i]'(by rw[hc4.len,hsh.1]; exact hil)=v at hvs
    have hrl:=hsh.2 i
    have hvl:i < vs.length:=by rw[hc4.len,hsh.1]; exact hil
    have hss:i < ss0.length:=by rw[hsh.1]; exact hil
    obtain ⟨nv,rfl,hnv⟩:=(hc4.row hvs).sl (by rw[lF]; omega)
    have hw:(ss0.getD i [])[k]?=some (dQ ss0 i k):=getD_some (by omega)
    have hnu:=(hc4.NY (by omega)).1
    have hpl:=List.length_filterMap_le (fun x:aH=>if (bA g x).2=false∧0≤x.aF then some (⟨x.aF,rh g a i x⟩:eM) else none) (((aY g a).getD i []).take k)
    rw[VQ] at hpl
    rw[hsx] at hw
    simp only[au,encS,bE] at hN
    simp (disch:=omega) only [↓wr,seval,wq,ah,ag,ak,aa,ab,af,ai,ae,t1,t4,t6,t11,t12,t13,t14,hb4,eN,hnl,hlg,kc,aT,Vc,hx,Vh,bE,au,encS]
    refine ⟨hil,hil,?_⟩
    refine aD.pure hN (by kernel_rfl) ?_
    have skip:¬ ((bA g x).2=false∧0≤x.aF)→(((aY g a).getD i []).take (k+1)).filterMap (fun x=>if (bA g x).2=false∧0≤x.aF then some (⟨x.aF,rh g a i x⟩:eM) else none)=(((aY g a).getD i []).take k).filterMap (fun x=>if (bA g x).2=false∧0≤x.aF then some (⟨x.aF,rh g a i x⟩:eM) else none):=fun hno=>by
     rw[htk,List.filterMap_append]
     simp[hno]
    have take:((bA g x).2=false∧0≤x.aF)→(((aY g a).getD i []).take (k+1)).filterMap (fun x=>if (bA g x).2=false∧0≤x.aF then some (⟨x.aF,rh g a i x⟩:eM) else none)=(((aY g a).getD i []).take k).filterMap (fun x=>if (bA g x).2=false∧0≤x.aF then some (⟨x.aF,rh g a i x⟩:eM) else none) ++ [⟨x.aF,rh g a i x⟩]:=fun hyes=>by
     rw[htk,List.filterMap_append]
     simp[hyes]
    simp (disch:=omega) only [↓wr,seval,wq,ah,ag,ak,aa,ab,af,ai,ae,t1,t4,t6,t11,t12,t13,t14]
    refine av.split (fun hok=>?_) (fun hok=>?_)
    ·simp (disch:=omega) only [↓wr,seval,wq,ah,ag,ak,aa,ab,af,ai,ae,t1,t4,t6,t11,t12,t13,t14]
     exact aM hk3 hkl ⟨u1,by rw[skip (by simp[hok])]; exact hc4,t1,t4,t6,t11,t12,t13,rfl⟩
    ·simp (disch:=omega) only [↓wr,seval,wq,ah,ag,ak,aa,ab,af,ai,ae,t1,t4,t6,t11,t12,t13,t14,hb4,eN,hnl,hlg,kc,aT,Vc,hx,Vh,bE]
     refine ⟨hil,hil,?_⟩
     refine av.dec (fun h0=>?_) (fun h0=>?_)
     ·simp (disch:=omega) only [↓wr,seval,wq,ah,ag,ak,aa,ab,af,ai,ae,t1,t4,t6,t11,t12,t13,t14,hb4,eN,hnl,hlg,kc,aT,Vc,hx,Vh,bE,hnu,CE hvs,hnv,vm hw,lF]
      refine ⟨hil,hil,hss,hvl,by omega,by omega,?_⟩
      intro q hq
      simp (disch:=omega) only [↓wr,seval,wq,ah,ag,ak,aa,ab,af,ai,ae,bV]
      refine cd.goApp (hc4.fresh hq) (by simp[aU]) (by unfold aJ; rw[jG,Vg]; simp only[Vr,VJ]; omega) (by unfold aJ; rw[jG,Vg]; simp only[Vr,VJ]; omega) ?_
      intro u2 H5 hc5
      simp (disch:=omega) only [↓wr,seval,wq,ah,ag,ak,aa,ab,af,ai,ae,t1,t4,t6,t11,t12,t13,t14]
      exact aM hk3 hkl ⟨u2,by rw[take ⟨hok,h0⟩,jG,VB]; exact hc5,t1,t4,t6,t11,t12,rfl,rfl⟩
     ·simp (disch:=omega) only [↓wr,seval,wq,ah,ag,ak,aa,ab,af,ai,ae,t1,t4,t6,t11,t12,t13,t14]
      exact aM hk3 hkl ⟨u1,by rw[skip (by omega)]; exact hc4,t1,t4,t6,t11,t12,t13,rfl⟩
   ·simp (disch:=omega) only [↓wr,seval,wq,ah,ag,ak,aa,ab,af,ai,ae,t1,t4,t6,t11,t12,t13,t14]
    have hBl:=Wj List.length hB
    simp only[Vg,VQ] at hBl
    have c13:=hc4.Rj.cells
    have k13:=hc4.Rj.gR
    rw[Vq (by omega)] at hc4
    have hll:(rJ g a)[i]?=some (qf g a i):=by rw[rJ,Vc,List.getElem?_range (by omega)]; rfl
    simp (disch:=omega) only [↓wr,seval,wq,ah,ag,ak,aa,ab,af,ai,ae,t1,t4,t6,t11,t12,t13,t14,c13,k13]
    intro q hq
    simp (disch:=omega) only [↓wr,seval,wq,ah,ag,ak,aa,ab,af,ai,ae,bV,t1,t4,t6,t11,t12,t13,t14]
    refine cd.goApp ((hc4.Q3 (.swap _ _ _)).fresh hq) (by simp[k13]) (by unfold aJ; simp[bQ]; omega) (by unfold aJ; simp[bQ]; omega) ?_
    intro uo2 H5 hc5
    simp (disch:=omega) only [↓wr,seval,wq,ah,ag,ak,aa,ab,af,ai,ae,t1,t4,t6,t11,t12]
    refine aM hk2 (by omega) ⟨uo2,B ++ [(u1,qf g a i)],?_,?_,t1,t4,t6,rfl,rfl⟩
    ·rw[VB,hB,Vx,hll]; rfl
    ·have e1:bQ (B ++ [(u1,qf g a i)])=bQ B ++ [[u1]]:=by simp[bQ]
     have e2:kT (B ++ [(u1,qf g a i)])=kT B ++ [(u1,2,jG (qf g a i))]:=by simp[kT]
     rw[e1,e2]
     exact hc5.Q3 (.cons _ (W9 _ _).symm)
  ·simp (disch:=omega) only [↓wr,seval,wq,ah,ag,ak,aa,ab,af,ai,ae,t11]
   rw[Vq (by simp[rJ]; omega)] at hB
   rintro h' rfl
   rw[← hB]
   have ho:=(hc3.own.perm nr)
   refine j9 (Kl ho.head fun x hx=>ho.1 (x.1,2,jG x.2) (Vt _ (Vt _ (Vt _ (Vt _ (WJ _ (Vw.2 ⟨x,hx,rfl⟩)))))))
def Ef:SF:=⟨.seq (ao [((some 2),.op (.bL (.val (.val (.int .u32 0)))))]) <|
 .seq (.seq (.region false [⟨none,[aj 3 0,aQ 4 .lss 3 0,aj 5 4]⟩,⟨(some (5,false)),[aj 6 0,aQ 7 .geq 6 32]⟩,⟨none,[c6 8 5 7]⟩]) <|
 .cond (.tmp 8) (.seq (ao [((some 2),.op (.bL (.val (.val (.int .u32 0)))))]) <|
 .ret) (.skip)) <|
 .seq (ao [aj 9 0,((some 10),.op (.sh true (.val (.val (.int .u32 1))) (.tmp 9))),aj 2 10]) <|
 .ret,
 [.tmp 2],11⟩
theorem HP:aV Tryz.prog 124 []=some Ef:=by kernel_rfl
theorem NG (n:Int):aI Tryz.prog 124 [gi n] (gw (dN n)):=by
 refine aI.val (by intro v hv; simp at hv; subst hv; exact .val _) fun H=>?_
 have bad:¬ (0≤n∧n≤31)→dN n=0:=fun h=>by rw[dN,Va h]
 refine aC.of mixed HP ?_
 simp (disch:=omega) only [↓wr,seval,wq,ah,ag,ak,aa,ab,af,ai,ae,Ef]
 refine av.dec (fun h1=>?_) (fun h1=>?_)
 ·simp (disch:=omega) only [↓wr,seval,wq,ah,ag,ak,aa,ab,af,ai,ae]
  rw[bad (by omega)]; rfl
 simp (disch:=omega) only [↓wr,seval,wq,ah,ag,ak,aa,ab,af,ai,ae]
 refine av.dec (fun h2=>?_) (fun h2=>?_)
 ·simp (disch:=omega) only [↓wr,seval,wq,ah,ag,ak,aa,ab,af,ai,ae]
  rw[bad (by omega)]; rfl
 simp (disch:=omega) only [↓wr,seval,wq,ah,ag,ak,aa,ab,af,ai,ae]
 have h31:(2:Nat) ^ n.toNat≤2 ^ 31:=Nat.pow_le_pow_right (by omega) (by omega)
 have e:DB true .u32 1 n=(((dN n).toNat:Nat):Int):=by
  rw[GA (by omega)]
  unfold DB
  rw[Vd rfl,show min n.toNat IntKind.u32.bits=n.toNat by rw[show IntKind.u32.bits=32 from rfl]; omega]
  have e2:((1:Int) * 2 ^ n.toNat)=((2 ^ n.toNat:Nat):Int):=by rw[Int.one_mul]; push_cast; rfl
  rw[e2]
  generalize (2:Nat) ^ n.toNat=z at h31
  exact LS (by omega) (by omega)
 rw[e]
 first | rfl | exact ⟨by omega,rfl⟩
def OT:List Int:=[37,37,32,115,32,58,32,108,32,39,61,39,32,114,32,124,32,114,32,59,32,108,32,58,32,39,42,39,32,114,32,124,32,39,105,39,32,59,32,114,32,58,32,108,32,59]
def qB:aw:=⟨[⟨⟨#[39,61,39]⟩,0,0⟩,⟨⟨#[39,42,39]⟩,0,0⟩,⟨⟨#[39,105,39]⟩,0,0⟩],[⟨#[115]⟩,⟨#[108]⟩,⟨#[114]⟩],[⟨0,[-2,0,-3],0⟩,⟨0,[-3],-1⟩,⟨1,[1,-3],1⟩,⟨1,[2],2⟩,⟨2,[-2],-1⟩],0⟩
noncomputable def RS:List (FuncId × DF):=BT Tryz.prog [(31,[]),(33,[1]),(74,[4,5,100000]),(121,[2]),(172,[]),(91,[]),(133,[]),(119,[]),(28,[]),(69,[2]),(68,[]),(24,[1]),(64,[]),(112,[]),(167,[]),(207,[]),(208,[]),(166,[]),(199,[]),(113,[2,3]),(126,[]),(173,[]),(168,[]),(114,[]),(62,[]),(56,[2]),(50,[2,3]),(53,[2]),(58,[]),(63,[2]),(111,[2]),(72,[2]),(73,[100000]),(120,[]),(124,[]),(75,[1]),(122,[]),(38,[]),(79,[]),(37,[])]
theorem LQ:tN Tryz.prog RS:=Bl _ _
theorem SD:cR Tryz.prog 49 [Bw OT] (r6 qB):=KA (by kernel_rfl)
theorem rL:qB.Ok∧qB.Small:=Ot (by kernel_rfl)
def Q0:List yw:=[(49,[Bw OT],r6 qB,false),(49,[Bw Rg],r6 tJ,false),(61,[.agg (au tJ)],gb true,false),(61,[.agg (au qB)],gb true,false),(61,[.agg (au uW)],gb false,false),
 (118,[.agg (au tJ)],.aK [[gb true]],false),(118,[.agg (au qB)],.aK [[gb false],[gb false],[gb false]],false)]
theorem Qu:∀ x∈Q0,x.Ok Tryz.prog:=by
 have hi:∀ (g:aw),g.Ok→g.Small→∀ b,isRed g=b→yw.Ok Tryz.prog (61,[.agg (au g)],gb b,false):=fun g h1 h2 b e=>⟨by kernel_rfl,by simp only[VA,if_false]; exact .inr ⟨e ▸ Nz g h1 h2,.val _⟩⟩
 have hn:∀ (g:aw),g.Ok→g.Small→∀ b,bP (aA g false)=b→yw.Ok Tryz.prog (118,[.agg (au g)],b,false):=fun g h1 h2 b e=>⟨by kernel_rfl,by simp only[VA,if_false]; exact .inl (e ▸ yB g h1 h2)⟩
 intro x hx
 simp only[Q0,Vp,List.not_mem_nil,or_false] at hx
 rcases hx with rfl | rfl | rfl | rfl | rfl | rfl | rfl
 ·exact ⟨by kernel_rfl,by simp only[VA,if_false]; exact .inl SD⟩
 ·exact ⟨by kernel_rfl,by simp only[VA,if_false]; exact .inl TI⟩
 ·exact hi tJ tG.1 tG.2 true (by kernel_rfl)
 ·exact hi qB rL.1 rL.2 true (by kernel_rfl)
 ·exact hi uW Tm ⟨by decide⟩ false (by kernel_rfl)
 ·exact hn tJ tG.1 tG.2 _ (by kernel_rfl)
 ·exact hn qB rL.1 rL.2 _ (by kernel_rfl)
theorem Ls:aI Tryz.prog 31 [] (gb true) :=
 (xw mixed LQ (PL Qu) (by simp) (by kernel_rfl)).pure
def yY:SF:=⟨.seq (ao [cL 2 0,((some 4),.op (.bL (.val (.emp 1))))]) <|
 .seq (.seq (ao [aj 5 1,aQ 6 .eql 5 (-1)]) <|
 .cond (.tmp 6) (.seq (ao [aB 7 3 2,ax 8 7,((some 9),.op (.arith .sub (.val (.val (.int .i64 (-1)))) (.tmp 8))),((some 10),.op (.cg 1 1 [(.val (.int .i64 0))] [(0,(.tmp 9))])),aj 4 10]) <|
 .ret) (.skip)) <|
 .seq (ao [aB 11 2 2,ax 12 11,aj 13 1,aP 14 3 12 13,aB 15 1 14,ax 16 15,aj 4 16]) <|
 .ret,
 [.tmp 4],17⟩
theorem CN:aV Tryz.prog 53 [2]=some yY:=by kernel_rfl
def An:SF:=⟨.seq (ao [cL 2 0,cL 3 1,bj 4 0,bK 5 false]) <|
 .seq (.seq (ao [bp 7 4 2,aB 8 0 3,ax 9 8,bC 10 53 [7,9],aj 6 10]) <|
 .seq (ao [aB 11 1 3,ax 12 11,aj 13 6,aX 14 13,bc 15 .lss 12 14]) <|
 .cond (.tmp 15) (.seq (ao [aj 16 6,aB 17 1 3,ax 18 17,aP 19 1 16 18,ax 20 19,aj 4 20,bK 5 true]) <|
 .ret) (.skip)) <|
 .seq (ao [bj 4 0,bK 5 false]) <|
 .ret,
 [.tmp 4,.tmp 5],21⟩
theorem Dc:aV Tryz.prog 50 [2,3]=some An:=by kernel_rfl
def Ay:SF:=⟨.seq (ao [cL 2 0,bj 4 0]) <|
 .seq (.seq (ao [aj 5 1,aQ 6 .lss 5 0]) <|
 .cond (.tmp 6) (.seq (ao [aB 7 0 2,ax 8 7,aX 9 8,aQ 10 .sub 9 1,aj 11 1,bc 12 .sub 10 11,aj 4 12]) <|
 .ret) (.skip)) <|
 .seq (ao [aj 13 1,aj 4 13]) <|
 .ret,
 [.tmp 4],14⟩
theorem DS:aV Tryz.prog 111 [2]=some Ay:=by kernel_rfl
def cT:SF:=⟨.seq (ao [((some 2),.op (.bL (.val (.emp 1))))]) <|
 .seq (.seq (ao [aj 3 0,((some 4),.op (.nil true 0 (.tmp 3) (.val (.emp 1))))]) <|
 .cond (.tmp 4) (.seq (ao [((some 2),.op (.bL (.val (.emp 1))))]) <|
 .ret) (.skip)) <|
 .seq (ao [((some 5),.op (.bL (.val (.emp 2)))),aj 6 0,((some 7),.op (.app 2 16 (.tmp 5) (.tmp 6))),aj 2 7]) <|
 .ret,
 [.tmp 2],8⟩
theorem dp:aV Tryz.prog 58 []=some cT:=by kernel_rfl
def sE:SC :=
 .seq (ao [bc 54 .lss 53 52]) <|
 .seq (.cond (.tmp 54) (.skip) (.exit 2)) <|
 .seq (.block 3 (.seq (ao [aj 55 53,aP 56 3 51 53,bp 57 3 56,((some 11),.op (.alloc [(.val (.int .i64 0)),(.emp 1),(.val (.int .i64 0))])),aj 10 55,(none,.op (.store 3 (.tmp 11) (.tmp 57)))]) <|
 .seq (ao [aB 58 0 11,ax 59 58,aj 60 8,((some 61),.op (.arith .sub (.val (.val (.int .i64 (-1)))) (.tmp 60))),bc 62 .eql 59 61]) <|
 .cond (.tmp 62) (ao [aj 63 5,aj 64 10,((some 65),.op (.build [(.val (.int .i64 0)),(.val (.int .i64 0))] [(0,1,(.tmp 64))])),((some 66),.op (.cg 1 2 [(.val (.int .i64 0)),(.val (.int .i64 0))] [(0,(.tmp 65))])),((some 67),.op (.app 2 16 (.tmp 63) (.tmp 66))),aj 5 67]) (.skip))) <|
 ao [aQ 68 .add 53 1,aj 53 68]
def th:SC :=
 .seq (.seq (ao [aj 18 7,aj 19 5,aX 20 19,bc 21 .lss 18 20]) <|
 .cond (.tmp 21) (.skip) (.exit 0)) <|
 .seq (.block 1 (.seq (ao [bp 25 4 2,aj 26 5,aj 27 7,aP 28 2 26 27,bp 29 2 28,bC 30 50 [25,29],aj 24 30,fK 31 0 24,fK 32 1 24,aj 8 31,aj 9 32]) <|
 .seq (.seq (.region false [⟨none,[aj 33 9,dd 34 33,aj 35 34]⟩,⟨(some (35,false)),[aj 36 8,aQ 37 .geq 36 0]⟩,⟨none,[c6 38 35 37,aj 39 38]⟩,⟨(some (39,false)),[aj 40 6,aj 41 8,((some 42),.op (.arith .sub (.val (.val (.int .i64 (-1)))) (.tmp 41))),aP 43 1 40 42,ax 44 43]⟩,⟨none,[c6 45 39 44]⟩]) <|
 .cond (.tmp 45) (.exit 1) (.skip)) <|
 .seq (ao [aj 46 6,aj 47 8,((some 48),.op (.arith .sub (.val (.val (.int .i64 (-1)))) (.tmp 47))),aP 49 1 46 48,(none,.op (.store 1 (.tmp 49) (.val (.val (.bool true)))))]) <|
 .seq (ao [aB 50 2 2,ax 51 50,aX 52 51,bj 53 0]) <|
 .block 2 (.loop sE))) <|
 ao [aj 22 7,aQ 23 .add 22 1,aj 7 23]
def vJ:SF:=⟨.seq (ao [cL 2 0,((some 4),.op (.bL (.val (.emp 1))))]) <|
 .seq (ao [aj 12 1,bC 13 58 [12],aj 5 13]) <|
 .seq (ao [aB 14 1 2,ax 15 14,aX 16 15,((some 17),.op (.make 1 1 [(.val (.bool false))] (.tmp 16) (.tmp 16))),aj 6 17]) <|
 .seq (.seq (ao [bj 7 0]) <|
 .block 0 (.loop th)) <|
 .seq (ao [aj 69 5,bC 70 64 [69],aj 4 70]) <|
 .ret,
 [.tmp 4],71⟩
theorem Ad:aV Tryz.prog 56 [2]=some vJ:=by kernel_rfl
theorem NM (g:aw) (hs : -100≤g.start∧g.start≤100) (r:Int) (hr : -1≤r∧r < (g.rules.length:Int)):aI Tryz.prog 53 [.agg (au g),gi r] (encI (aW g r)):=by
 refine aI.of (by
  intro v hv; simp at hv
  rcases hv with rfl | rfl
  ·exact cI _ (dH g)
  ·exact .val _) ?_
 refine aC.of mixed CN ?_
 unfold aW
 simp (disch:=omega) only [↓wr,seval,wq,ah,ag,ak,aa,ab,af,ai,ae,yY,au,encS]
 refine av.eq (fun h1=>?_) (fun h1=>?_)
 ·simp (disch:=omega) only [↓wr,seval,wq,ah,ag,ak,aa,ab,af,ai,ae,au,encS]
  intro n
  rw[Vd h1]
  rintro h' hv
  refine eu.fr (mQ (l:=[-1 - g.start]) (.inr ⟨n,rfl,?_⟩))
  rw[hv]; simp[View.set]
 ·have hR:g.rules[r.toNat]?=some (aE g r):=by unfold aE; exact getD_some (by omega)
  rw[Va h1]
  generalize aE g r=R at hR
  simp (disch:=omega) only [↓wr,seval,wq,ah,ag,ak,aa,ab,af,ai,ae,au,encS,Vc,hR,Vh,aO]
  intro h' _
  exact .tree _ (eP R.right)
theorem HR (g:aw) (hf:g.dK) (x:aH) (hx:cr g x):aI Tryz.prog 50 [.agg (au g),.agg (bE x)] (.bI [gi (bA g x).1,gb (bA g x).2]):=by
 have h1:=NM g (rR hf) x.aF hx.1
 have hl:=eS hf hx.1
 have hd:=hx.2
 refine aI.tree (by
  intro v hv; simp at hv
  rcases hv with rfl | rfl
  ·exact cI _ (dH g)
  ·exact cI _ fun v hv=>by simp[bE] at hv; rcases hv with rfl | rfl <;> exact .val _) (.bI _ fun i hi=>by
   match i,hi with
   | 0,_=>exact .val _
   | 1,_=>exact .val _) fun H=>?_
 refine aC.of mixed Dc ?_
 simp only[au,encS,encI] at h1
 unfold bA
 simp (disch:=omega) only [↓wr,seval,wq,ah,ag,ak,aa,ab,af,ai,ae,An,au,encS,bE]
 refine aD.pure h1 (by kernel_rfl) ?_
 generalize aW g x.aF=R at hd hl ⊢
 simp (disch:=omega) only [↓wr,seval,wq,ah,ag,ak,aa,ab,af,ai,ae,bE]
 refine av.dec (fun h2=>?_) (fun h2=>?_)
 ·have hg:R[x.dot.toNat]?=some (R.getD x.dot.toNat 0):=getD_some (by omega)
  simp (disch:=omega) only [↓wr,seval,wq,ah,ag,ak,aa,ab,af,ai,ae,bE,Vc,hg,Vh]
  rw[Va (by omega)]
 ·simp (disch:=omega) only [↓wr,seval,wq,ah,ag,ak,aa,ab,af,ai,ae]
  rw[Vd (by omega)]
theorem P9 (g:aw) (hf:g.dK) (s:Int) (hs : -1000≤s∧s≤1000):aI Tryz.prog 111 [.agg (au g),gi s] (gi (jT g s)):=by
 have hT:=hf.ay
 refine aI.val (by
  intro v hv; simp at hv
  rcases hv with rfl | rfl
  ·exact cI _ (dH g)
  ·exact .val _) fun H=>?_
 refine aC.of mixed DS ?_
 unfold jT
 simp (disch:=omega) only [↓wr,seval,wq,ah,ag,ak,aa,ab,af,ai,ae,Ay,au,encS]
 refine av.dec (fun h1=>?_) (fun h1=>?_)
 ·simp (disch:=omega) only [↓wr,seval,wq,ah,ag,ak,aa,ab,af,ai,ae,au]
  rw[Vd h1]
 ·simp (disch:=omega) only [↓wr,seval,wq,ah,ag,ak,aa,ab,af,ai,ae]
  rw[Va h1]
theorem bX.Uy {P:Program} {f:FuncId} {h:aL} {u:V} (hu:∀ Z μ hp x,aG Z μ hp u x→∃ a cap,x=.slice a 0 cap∧(a=none→cap=0)) (h1:bX P f [.emp 1] h (.emp 1) h) (h2:bX P f [.emp 2] h (.emp 2) h) (h3:bX P f [.dV] h (.emp 2) h):bX P f [u] h (.emp 0) h:=by
 refine ⟨Vj _,fun Z μ F w xs hrel hr hfree=>?_⟩
 obtain ⟨hl,hv⟩:=hrel
 obtain ⟨x,rfl⟩:∃ x,xs=[x]:=by
  match xs,hl with
  | [x],_=>exact ⟨x,rfl⟩
 have h0:aG Z μ w.heap u x:=hv 0 (by simp)
 have one:∀ v,aG Z μ w.heap v x→gf Z μ w.heap [v] [x]:=fun v h=>⟨rfl,fun i hi=>by
  simp at hi; subst hi; exact h⟩
 have weak:∀ k,bX P f [if k=3 then .dV else .emp k] h (if k=3 then .emp 2 else .emp k) h→aG Z μ w.heap (if k=3 then .dV else .emp k) x→Calls P f [x].toArray w fun e w'=>∃ x Z' μ',e=.returned x∧aG Z' μ' w'.heap (.emp 0) x∧ik Z' μ' w'.heap (cat h F)∧Ext Z μ w h.length Z' μ' w'∧(∀ id,id < h.length∨h.length≤id→μ' id=μ id):=by
  intro k hk hx
  refine (hk.2 Z μ F w [x] (one _ hx) hr hfree).mono ?_
  rintro e w' ⟨y,Z',μ',rfl,hy,rest⟩
  refine ⟨y,Z',μ',rfl,?_,rest⟩
  have:∀ k',aG Z' μ' w'.heap (.emp k') y→aG Z' μ' w'.heap (.emp 0) y:=fun k' h=>by
   cases h with | emp _ a _ _=>exact .emp 0 a (by simp) (by simp)
  split at hy <;> exact this _ hy
 obtain ⟨a,cap,rfl,hz⟩:=hu Z μ w.heap x h0
 cases a with
 | none =>
  have:=hz rfl
  subst this
  exact weak 1 (by simpa using h1) (.emp 1 none (by simp) (by simp))
 | some a =>
  cases cap with
  | zero=>exact weak 2 (by simpa using h2) (.emp 2 (some a) (by simp) (by simp))
  | succ c=>exact weak 3 (by simpa using h3) (.dV a (c+1))
theorem No {Z:Nat→Prop} {μ:Mu} {hp:Array Obj} {k:Nat} {x:Value} (h:aG Z μ hp (.emp k) x):∃ a cap,x=.slice a 0 cap∧(a=none→cap=0):=by
 cases h with | emp _ a _ _=>exact ⟨a,0,rfl,fun _=>rfl⟩
theorem O2 {Z:Nat→Prop} {μ:Mu} {hp:Array Obj} {id off esz:Nat} {x:Value} (h:aG Z μ hp (.sl id off 0 esz) x):∃ a cap,x=.slice a 0 cap∧(a=none→cap=0):=by
 rcases GW h with ⟨_,a,e⟩ | ⟨b,o0,cap,c,e,f,e2,_⟩
 ·exact ⟨a,0,e,fun _=>rfl⟩
 ·exact ⟨_,cap,e2,fun h=>by simp at h⟩
theorem I7 (u:V) (hu:∀ Z μ hp x,aG Z μ hp u x→∃ a cap,x=.slice a 0 cap∧(a=none→cap=0)) (h:aL):bX Tryz.prog 58 [u] h (.emp 0) h:=by
 have hp:∀ v t,Tree v→Tree t→(∀ H,aC Tryz.prog 58 [v] H fun r _=>r=t)→aI Tryz.prog 58 [v] t:=fun v t hv ht h=>aI.tree (by intro x hx; simp at hx; subst hx; exact hv) ht h
 have h1:=hp (.emp 1) (.emp 1) (.emp 1) (.emp 1) (fun H=>by
  refine aC.of mixed dp ?_
  simp (disch:=omega) only [↓wr,seval,wq,ah,ag,ak,aa,ab,af,ai,ae,cT])
 have h2:=hp (.emp 2) (.emp 2) (.emp 2) (.emp 2) (fun H=>by
  refine aC.of mixed dp ?_
  simp (disch:=omega) only [↓wr,seval,wq,ah,ag,ak,aa,ab,af,ai,ae,cT,jd,Xa])
 have h3:=hp .dV (.emp 2) .dV (.emp 2) (fun H=>by
  refine aC.of mixed dp ?_
  simp (disch:=omega) only [↓wr,seval,wq,ah,ag,ak,aa,ab,af,ai,ae,cT,qb,jd,Xa])
 exact bX.Uy hu (bX.gv h1 h) (bX.gv h2 h) (bX.gv h3 h)
set_option maxHeartbeats 2000000 in
theorem LY (l:List aH) (hl:l.length≤100000) (u:V) (H:View) (ho:ba H u 2 (aT l)):aC Tryz.prog 58 [u] H fun r H'=>ba H' r 2 (aT l)∧dh H H' r:=by
 cases l with
 | nil =>
  refine ⟨by kernel_rfl,?_⟩
  rintro h rfl
  refine ⟨.emp 0,h,I7 u (fun Z μ hp x hx=>?_) h,.refl _,.nil,.emp⟩
  rcases ho with ⟨_,k,rfl⟩ | ⟨n,rfl,_⟩
  ·exact No hx
  ·exact O2 hx
 | cons x r =>
  obtain ⟨id,hu,hid⟩:=ho.sl (by rw[bJ]; simp)
  subst hu
  refine aC.of mixed dp ?_
  have he:=rU (H:=H) id 0 r.length 2 2 (aT (x :: r)) hid (by rw[bJ]; simp)
  rw[Ww,Vq (by rw[bJ]; simp)] at he
  simp only[Vr] at hl
  have hlen:(aT (x :: r)).length=r.length+1:=by rw[bJ]; rfl
  rw[hlen]
  simp (disch:=omega) only [↓wr,seval,wq,ah,ag,ak,aa,ab,af,ai,ae,cT,he]
  refine gS (es:=[]) (.inl ⟨rfl,2,rfl⟩) (by simp[aT,bE,List.all_map,aU]) (by unfold aJ; rw[hlen]; simp; omega) (by unfold aJ; rw[hlen]; simp; omega) ?_
  intro u2 H2 o2 l2
  simp (disch:=omega) only [↓wr,seval,wq,ah,ag,ak,aa,ab,af,ai,ae]
  refine ⟨by simpa using o2,fun j hj=>?_⟩
  exact l2 j hj (by simp[owner])
def dD (ks:List Nat):List aH:=ks.map fun (k:Nat)=>(⟨k,0⟩:aH)
theorem yl {ks:List Nat} {n:Nat} (h:ks.Nodup) (hk:∀ k∈ks,k < n):ks.length≤n:=by
 have:=nC ks (List.range n) h fun x hx=>V5.2 (hk x hx)
 simpa using this
theorem Ni {l:List Bool} {i:Nat} (h:i < l.length):(dA l).getD i []=[gb (l.getD i false)]:=by
 simp[U8,h]
structure Nx (g:aw) (l:List aH) (H H':View) (i:Nat) (r su:V) (ks:List Nat) (seen:List Bool):Prop where
 own:bt H' [(r,2,aT (l ++ dD ks)),(su,1,dA seen)]
 f1:dh H H' r
 f2:dh H H' su
 nd:ks.Nodup
 kl:∀ k∈ks,k < g.rules.length
 sl:seen.length=g.az.length
 s1:∀ (n k:Nat) (R:bw),seen.getD n false=true→g.rules[k]?=some R→R.left=n→k∈ks
 s2:∀ (k:Nat) (R:bw),k∈ks→g.rules[k]?=some R→seen.getD R.left.toNat false=true
 cl:∀ x∈l ++ dD ks,mR g l x
 dn:∀ (j:Nat) (x:aH) (s:Int),j < i→(l ++ dD ks)[j]?=some x→bA g x=(s,true)→s < 0→seen.getD (-1 - s).toNat false=true
 il:i≤(l ++ dD ks).length
theorem Nx.len {g:aw} {l:List aH} {H H':View} {i:Nat} {r su:V} {ks:List Nat} {seen:List Bool} (h:Nx g l H H' i r su ks seen):ks.length≤g.rules.length∧(l ++ dD ks).length=l.length+ks.length:=by
 refine ⟨yl h.nd h.kl,by simp[dD]⟩
def UW (g:aw) (l:List aH) (H:View) (m:Nat) (T:Env) (H':View):Prop:=∃ (i:Nat) (r su:V) (ks:List Nat) (seen:List Bool),m=l.length+g.rules.length - i∧Nx g l H H' i r su ks seen∧T 2=.aN (au g) 0∧T 5=r∧T 6=su∧T 7=gi i
set_option maxHeartbeats 16000000 in
theorem ID (g:aw) (hf:g.dK) (l:List aH) (hl:∀ x∈l,cr g x) (hn:l.length≤10000) (u:V) (H:View) (ho:ba H u 2 (aT l)):aC Tryz.prog 56 [.agg (au g),u] H fun r H'=>ba H' r 2 (aT (cw g l))∧dh H H' r:=by
 refine aC.of mixed Ad ?_
 have hru:=hf.rules
 have hno:=hf.az
 simp (disch:=omega) only [↓wr,seval,wq,ah,ag,ak,aa,ab,af,ai,ae,vJ,au,encS]
 refine aD.dP ((LY l (by omega) u H ho).mono ?_)
 rintro r H1 ⟨o1,f1⟩
 simp (disch:=omega) only [↓wr,seval,wq,ah,ag,ak,aa,ab,af,ai,ae,au,encS]
 refine ⟨⟨Vj _,by unfold aJ; omega,by unfold aJ; omega⟩,fun h0=>?_,fun h0 q hq=>?_⟩
 ·exact absurd (by have:=hf.p9; omega) (show ¬ g.az.length=0 by have:=hf.p9; omega)
 have hst:Nx g l H (H1.set q (.arr 1 (List.replicate g.az.length [gb false]))) 0 r (.sl q 0 g.az.length 1) [] (List.replicate g.az.length false):=by
  have e:List.replicate g.az.length [gb false]=dA (List.replicate g.az.length false):=by simp
  have hr1:bt H1 [(r,2,aT l)]:=⟨fun x hx=>by simp at hx; subst hx; exact o1,by
   cases hr:owner r <;> simp[Wy,hr]⟩
  have ky:H q=.dead∨H q≠.dead:=by cases H q <;> simp
  have hqH:H q=.dead:=by
   rcases ky with h | h
   ·exact h
   ·have:=(f1 q h).1; rw[hq] at this; exact absurd this.symm h
  refine ⟨?_,fun id hid=>?_,fun id hid=>?_,.nil,by simp,by simp,fun n k R h=>?_,by simp,fun x hx=>.base (by simpa [dD] using hx),fun j x s h=>by omega,WK _⟩
  ·have h2:=(hr1.new hq 1 (List.replicate g.az.length [gb false])).perm (.swap _ _ _)
   rw[WO] at h2
   rw[e] at h2 ⊢
   simpa [dD] using h2
  ·have hne:id≠q:=by rintro rfl; exact hid hqH
   exact ⟨by simp only[View.set]; rw[Va hne]; exact (f1 id hid).1,(f1 id hid).2⟩
  ·have hne:id≠q:=by rintro rfl; exact hid hqH
   exact ⟨by simp only[View.set]; rw[Va hne]; exact (f1 id hid).1,by simp[owner,Ne.symm hne]⟩
  ·simp only[U8,WT] at h
   split at h <;> simp at h
 generalize H1.set q (.arr 1 (List.replicate g.az.length [gb false]))=H2 at hst ⊢
 refine aZ.intro (UW g l H) (l.length+g.rules.length) ⟨0,r,_,[],_,by omega,hst,rfl,rfl,rfl,rfl⟩ ?_
 clear hst o1 f1 hq
 rintro m T H' ⟨i,r,su,ks,seen,rfl,hI,t2,t5,t6,t7⟩
 obtain ⟨hk1,hk2⟩:=hI.len
 have hlr:cH r=some (l ++ dD ks).length:=by rw[hI.own.head.len,bJ]
 simp (disch:=omega) only [↓wr,seval,wq,ah,ag,ak,aa,ab,af,ai,ae,th,t2,t5,t6,t7,hlr]
 refine av.dec (fun hc=>?_) (fun hc=>?_)
 rotate_left
 ·
  have hi:i=(l ++ dD ks).length:=by have:=hI.il; omega
  simp (disch:=omega) only [↓wr,seval,wq,ah,ag,ak,aa,ab,af,ai,ae,t5]
  refine aD.dP ((KJ (l ++ dD ks) (by omega) r H' hI.own.head).mono ?_)
  rintro r2 H3 ⟨k3,o3,e3⟩
  simp (disch:=omega) only [↓wr,seval,wq,ah,ag,ak,aa,ab,af,ai,ae]
  have hcl:cw g l=zL (l ++ dD ks):=Iw hf hl (Cz _) (fun x hx=>hI.cl x (qH.1 hx)) (fun x hx=>qH.2 (by simp[hx])) (fun x hx s k R h1 h2 h3 h4=>by
   obtain ⟨j,hj,e⟩:=Wl.1 (qH.1 hx)
   have h5:=hI.dn j x s (by omega) (by rw[U9 hj,e]) h1 h2
   have h6:=hI.s1 _ k R h5 h3 (by omega)
   exact qH.2 (WJ _ (Vw.2 ⟨k,h6,rfl⟩)))
  rw[hcl]
  refine ⟨o3,fun id hid=>?_⟩
  obtain ⟨q1,q2⟩:=hI.f1 id hid
  exact ⟨by rw[k3 id q2,q1],by rw[e3]; exact q2⟩
 have hx:(l ++ dD ks)[i]?=some ((l ++ dD ks)[i]'(by omega)):=U9 (by omega)
 have hxm:=Vi (show i < (l ++ dD ks).length by omega)
 have hdn:=hI.dn
 generalize (l ++ dD ks)[i]'(by omega)=x at hx hxm
 have hxC:=hI.cl x hxm
 have hxH:=hxC.has hl
 have h1:=HR g hf x hxH
 cases hny:bA g x with
 | mk s okb =>
 have hsb:=rP hf hxH hny
 rw[hny] at h1
 obtain ⟨id,hu,hid⟩:=hI.own.head.sl (by rw[bJ]; omega)
 simp only at hu hid
 rw[bJ] at hu
 simp only[au,encS,bE] at h1
 simp (disch:=omega) only [↓wr,seval,wq,ah,ag,ak,aa,ab,af,ai,ae,t2,t5,t6,t7,hu,hid,qp hx,au,encS]
 refine ⟨by omega,by rw[bJ]; omega,?_⟩
 refine aD.pure h1 (by kernel_rfl) ?_
 have skip:(okb=true→s < 0→seen.getD (-1 - s).toNat false=true)→Nx g l H H' (i+1) r su ks seen:=fun h =>
  ⟨hI.own,hI.f1,hI.f2,hI.nd,hI.kl,hI.sl,hI.s1,hI.s2,hI.cl,fun j y t hj hy hn h0=>by
   rcases Vy j i with q | q
   ·exact hI.dn j y t q hy hn h0
   ·have:j=i:=by omega
    subst this
    rw[hx] at hy
    simp only[Vb] at hy
    subst hy
    rw[hny] at hn
    simp only[Ve] at hn
    obtain ⟨rfl,rfl⟩:=hn
    exact h rfl h0,by omega⟩
 cases okb with
 | false =>
  simp (disch:=omega) only [↓wr,seval,wq,ah,ag,ak,aa,ab,af,ai,ae,t2,t5,t6,t7]
  exact ⟨l.length+g.rules.length - (i+1),by omega,i+1,r,su,ks,seen,rfl,skip (by simp),t2,by rw[← hu]; exact t5,t6,rfl⟩
 | true =>
 simp (disch:=omega) only [↓wr,seval,wq,ah,ag,ak,aa,ab,af,ai,ae]
 refine av.dec (fun h0=>?_) (fun h0=>?_)
 ·simp (disch:=omega) only [↓wr,seval,wq,ah,ag,ak,aa,ab,af,ai,ae,t2,t5,t6,t7]
  exact ⟨l.length+g.rules.length - (i+1),by omega,i+1,r,su,ks,seen,rfl,skip (fun _ h=>by omega),t2,by rw[← hu]; exact t5,t6,rfl⟩
 have hG:=pI hf hxH hny
 have hnl:(-1 - s).toNat < g.az.length:=by
  unfold gu at hG
  rw[Va (by omega)] at hG
  simp at hG; omega
 obtain ⟨id2,hu2,hid2⟩:=hI.own.tail.head.sl (by simp[hI.sl]; omega)
 simp only at hu2 hid2
 rw[Vg,hI.sl] at hu2
 have hsn:(-1 - s).toNat < seen.length:=by rw[hI.sl]; exact hnl
 simp (disch:=omega) only [↓wr,seval,wq,ah,ag,ak,aa,ab,af,ai,ae,t6,hu2,hid2,Ni hsn]
 refine ⟨by omega,by simp[hI.sl]; omega,?_⟩
 refine av.split (fun h2=>?_) (fun h2=>?_)
 ·simp (disch:=omega) only [↓wr,seval,wq,ah,ag,ak,aa,ab,af,ai,ae,t2,t5,t6,t7]
  exact ⟨l.length+g.rules.length - (i+1),by omega,i+1,r,su,ks,seen,rfl,skip (fun _ _=>h2),t2,by rw[← hu]; exact t5,by rw[← hu2]; exact t6,rfl⟩
 obtain ⟨n,hn⟩:∃ n:Nat,-1 - s=(n:Int):=⟨(-1 - s).toNat,by omega⟩
 have hnn:(-1 - s).toNat=n:=by omega
 rw[hnn] at hnl hsn h2
 have hse:(dA seen).set n [gb true]=dA (seen.set n true):=by simp[WQ]
 simp (disch:=omega) only [↓wr,seval,wq,ah,ag,ak,aa,ab,af,ai,ae,t2,t5,t6,t7,hu2,hid2,au,encS,hn,Ni hsn,hse]
 refine ⟨by omega,by simp[hI.sl]; omega,?_⟩
 have hsg:∀ m,(seen.set n true).getD m false=if n=m then true else seen.getD m false:=fun m=>by
  rw[gJ]
  by_cases e:n=m
  ·rw[Vd ⟨e,hsn⟩,Vd e]
  ·rw[Va (fun h=>e h.1),Va e]
 have o2:bt (H'.set id2 (.arr 1 (dA (seen.set n true)))) [(r,2,aT (l ++ dD ks)),(su,1,dA (seen.set n true))]:=by
  have h3:=hI.own.perm (.swap _ _ _)
  rw[hu2] at h3 ⊢
  exact (h3.put (es':=dA (seen.set n true)) (by simp) (by simp[hI.sl])).perm (.swap _ _ _)
 have hdead:∀ id,H id≠.dead→id≠id2:=fun id hid e=>by
  have:=(hI.f2 id hid).2
  rw[hu2,e] at this
  exact this rfl
 have f1':dh H (H'.set id2 (.arr 1 (dA (seen.set n true)))) r:=fun id hid=>⟨by simp only[View.set]; rw[Va (hdead id hid)]; exact (hI.f1 id hid).1,(hI.f1 id hid).2⟩
 have f2':dh H (H'.set id2 (.arr 1 (dA (seen.set n true)))) su:=fun id hid=>⟨by simp only[View.set]; rw[Va (hdead id hid)]; exact (hI.f2 id hid).1,(hI.f2 id hid).2⟩
 generalize H'.set id2 (.arr 1 (dA (seen.set n true)))=H4 at o2 f1' f2' ⊢
 refine aZ.up g.rules.length (fun k T H5=>∃ (r2:V) (ks2:List Nat),ks2=ks ++ (List.range k).filter (fun (q:Nat)=>decide ((aE g q).left=n))∧bt H5 [(r2,2,aT (l ++ dD ks2)),(su,1,dA (seen.set n true))]∧dh H H5 r2∧dh H H5 su ∧
  T 2=.aN (au g) 0∧T 5=r2∧T 6=su∧T 7=gi i∧T 8=gi s∧T 51=.aK (g.rules.map aO)∧T 52=gi g.rules.length∧T 53=gi k) ⟨r,ks,by simp,o2,f1',f2',t2,by rw[← hu]; exact t5,by rw[← hu2]; exact t6,t7,rfl,rfl,rfl,rfl⟩ ?_
 clear t2 t5 t6 t7 o2 f1' f2'
 rintro k j T5 H5 hk ⟨r2,ks2,hks,o5,f5,g5,t2,t5,t6,t7,t8,t51,t52,t53⟩
 have hdis:∀ q,q∈ks→¬ (aE g q).left=n:=fun q hq e=>by
  have hR:g.rules[q]?=some (aE g q):=by unfold aE; exact getD_some (hI.kl q hq)
  have:=hI.s2 q _ hq hR
  rw[e] at this
  simp only[Vv] at this
  rw[h2] at this; simp at this
 have hnd2:ks2.Nodup:=by
  rw[hks,V2]
  refine ⟨hI.nd,(List.nodup_range).filter _,fun a ha b hb e=>?_⟩
  subst e
  exact hdis a ha (by simpa using (VX.1 hb).2)
 simp (disch:=omega) only [↓wr,seval,wq,ah,ag,ak,aa,ab,af,ai,ae,sE,t2,t5,t6,t7,t8,t51,t52,t53]
 refine av.dec (fun hc5=>?_) (fun hc5=>?_)
 ·have hR:g.rules[k]?=some (aE g k):=by unfold aE; exact getD_some (by omega)
  have hkl2:∀ q∈ks2,q < g.rules.length:=fun q hq=>by
   rw[hks] at hq
   rcases VE.1 hq with h | h
   ·exact hI.kl q h
   ·have:=V5.1 (VX.1 h).1; omega
  have hl2:=yl hnd2 hkl2
  have hstep:ks ++ (List.range (k+1)).filter (fun (q:Nat)=>decide ((aE g q).left=n))=if (aE g k).left=n then ks2 ++ [k] else ks2:=by
   rw[V0,WB,← VV,← hks]
   by_cases e:(aE g k).left=n <;> simp[e]
  generalize aE g k=R at hR hstep
  simp (disch:=omega) only [↓wr,seval,wq,ah,ag,ak,aa,ab,af,ai,ae,t2,t5,t6,t7,t8,t51,t52,t53,Vc,hR,Vh,aO]
  intro q hq
  rw[set_set]
  have hqq:(H5.set q (.arr 3 [[gi R.left,encI R.right,gi R.prec]])) q=.arr 3 [[gi R.left,encI R.right,gi R.prec]]:=by simp[View.set]
  have hqH:∀ id,H id≠.dead→id≠q:=fun id hid e=>by
   have:=(f5 id hid).1
   rw[e,hq] at this
   exact hid (by rw[e]; exact this.symm)
  have o6:=o5.fresh (o:=.arr 3 [[gi R.left,encI R.right,gi R.prec]]) hq
  have f6:dh H (H5.set q (.arr 3 [[gi R.left,encI R.right,gi R.prec]])) r2:=fun id hid=>⟨by simp only[View.set]; rw[Va (hqH id hid)]; exact (f5 id hid).1,(f5 id hid).2⟩
  have g6:dh H (H5.set q (.arr 3 [[gi R.left,encI R.right,gi R.prec]])) su:=fun id hid=>⟨by simp only[View.set]; rw[Va (hqH id hid)]; exact (g5 id hid).1,(g5 id hid).2⟩
  generalize H5.set q (.arr 3 [[gi R.left,encI R.right,gi R.prec]])=H6 at hqq o6 f6 g6
  clear o5 f5 g5 hq hqH
  simp (disch:=omega) only [↓wr,seval,wq,ah,ag,ak,aa,ab,af,ai,ae,t2,t5,t6,t7,t8,hqq,hn]
  refine ⟨rfl,?_⟩
  refine av.eq (fun he=>?_) (fun he=>?_)
  ·simp (disch:=omega) only [↓wr,seval,wq,ah,ag,ak,aa,ab,af,ai,ae,t2,t5,t6,t7,t8]
   intro q2 hq2
   simp (disch:=omega) only [↓wr,seval,wq,ah,ag,ak,aa,ab,af,ai,ae,bV]
   have hqH2:∀ id,H id≠.dead→id≠q2:=fun id hid e=>by
    have:=(f6 id hid).1
    rw[e,hq2] at this
    exact hid (by rw[e]; exact this.symm)
   refine cn (o6.fresh hq2) (by simp[aU]) (by unfold aJ; rw[bJ]; simp[dD]; omega) (by unfold aJ; rw[bJ]; simp[dD]; omega) ?_
   intro r3 H7 o7 l7
   simp (disch:=omega) only [↓wr,seval,wq,ah,ag,ak,aa,ab,af,ai,ae,t2,t6,t7,t8,t51,t52,t53]
   rw[Vd he] at hstep
   have f7:∀ v,dh H H6 v→(∀ id,owner v=some id→owner r2≠some id∧owner r3≠some id)→dh H H7 v:=fun v hv hvo id hid=>by
    obtain ⟨e1,e2⟩:=hv id hid
    obtain ⟨k1,k2⟩:=l7 id (by simp only[View.set]; rw[Va (hqH2 id hid),e1]; exact hid) (f6 id hid).2
    refine ⟨?_,e2⟩
    rw[k1]
    simp only[View.set]
    rw[Va (hqH2 id hid),e1]
   have f8:dh H H7 r3:=fun id hid=>by
    obtain ⟨e1,e2⟩:=f6 id hid
    obtain ⟨k1,k2⟩:=l7 id (by simp only[View.set]; rw[Va (hqH2 id hid),e1]; exact hid) e2
    refine ⟨?_,k2⟩
    rw[k1]
    simp only[View.set]
    rw[Va (hqH2 id hid),e1]
   refine aM hk (by omega) ⟨r3,ks2 ++ [k],hstep.symm,?_,f8,fun id hid=>⟨(f8 id hid).1,(g6 id hid).2⟩,t2,rfl,t6,t7,t8,t51,t52,rfl⟩
   have e1:aT (l ++ dD (ks2 ++ [k]))=aT (l ++ dD ks2) ++ [[gi k,gi 0]]:=by simp[aT,dD,bE]
   rw[e1]
   exact o7
  ·simp (disch:=omega) only [↓wr,seval,wq,ah,ag,ak,aa,ab,af,ai,ae,t2,t5,t6,t7,t8,t51,t52,t53]
   rw[Va he] at hstep
   exact aM hk (by omega) ⟨r2,ks2,hstep.symm,o6,f6,g6,t2,t5,t6,t7,t8,t51,t52,rfl⟩
 ·have hke:k=g.rules.length:=by omega
  subst hke
  simp (disch:=omega) only [↓wr,seval,wq,ah,ag,ak,aa,ab,af,ai,ae,t2,t5,t6,t7]
  have hmem:∀ q,q∈ks2↔q∈ks∨(q < g.rules.length∧(aE g q).left=n):=fun q=>by
   rw[hks,VE,VX,V5,Vo]
  have hRD:∀ (q:Nat) (R:bw),g.rules[q]?=some R→aE g q=R:=fun q R h=>by
   unfold aE
   rw[Vv,U8,h]; rfl
  have hpre:∀ (j:Nat),j≤i→(l ++ dD ks2)[j]?=(l ++ dD ks)[j]?:=fun j hj=>by
   rw[hks,dD,VB,← VV]
   exact Vz (by simp only[dD] at hc; omega)
  refine ⟨l.length+g.rules.length - (i+1),by omega,i+1,r2,su,ks2,seen.set n true,rfl,⟨o5,f5,g5,hnd2,fun q hq=>?_,by rw[WW]; exact hI.sl,fun m q R h3 h4 h5=>?_,fun q R h3 h4=>?_,fun y hy=>?_,fun j y t hj hy hn2 h0=>?_,?_⟩,t2,t5,t6,rfl⟩
  ·rcases (hmem q).1 hq with h | h
   ·exact hI.kl q h
   ·exact h.1
  ·rw[hsg] at h3
   split at h3
   ·rename_i e
    subst e
    exact (hmem q).2 (.inr ⟨(Vn.1 h4).1,by rw[hRD q R h4]; exact h5⟩)
   ·exact (hmem q).2 (.inl (hI.s1 m q R h3 h4 h5))
  ·rw[hsg]
   rcases (hmem q).1 h3 with h | h
   ·split
    ·rfl
    ·exact hI.s2 q R h h4
   ·rw[hRD q R h4] at h
    rw[h.2,Vv,Vd rfl]
  ·rcases VE.1 hy with h | h
   ·exact hI.cl y (WC _ h)
   ·obtain ⟨q,hq,rfl⟩:=Vw.1 h
    rcases (hmem q).1 hq with h | h
    ·exact hI.cl _ (WJ _ (Vw.2 ⟨q,h,rfl⟩))
    ·have hR:g.rules[q]?=some (aE g q):=by unfold aE; exact getD_some h.1
     exact .step hxC hny (by omega) hR (by rw[h.2,hn])
  ·rw[hpre j (by omega)] at hy
   rw[hsg]
   rcases Vy j i with q | q
   ·split
    ·rfl
    ·exact hI.dn j y t q hy hn2 h0
   ·have:j=i:=by omega
    subst this
    rw[hx] at hy
    simp only[Vb] at hy
    subst hy
    rw[hny] at hn2
    simp only[Ve,and_true] at hn2
    subst hn2
    rw[hnn,Vd rfl]
  ·rw[hks,dD,VB,← VV,V6]
   simp only[dD] at hc
   omega
theorem EO {α:Type} (p:α→Bool):∀ (l:List α) (i:Int),0≤i→cE p l i = -1→∀ x∈l,p x=false
 | [],_,_,_=>by simp
 | x :: l,i,h0,h=>by
  rw[cE] at h
  split at h
  ·omega
  ·rename_i hp
   intro y hy
   rcases Vp.1 hy with rfl | hy
   ·simpa using hp
   ·exact EO p l (i+1) (by omega) h y hy
theorem EH {α:Type} (p:α→Bool):∀ (l:List α) (i:Int),0≤i→cE p l i = -1∨∃ (k:Nat) (x:α),cE p l i=i+k∧l[k]?=some x∧p x=true∧∀ y∈l.take k,p y=false
 | [],_,_=>.inl rfl
 | x :: l,i,h0=>by
  rw[cE]
  split
  ·rename_i hp
   exact .inr ⟨0,x,by simp,rfl,hp,by simp⟩
  ·rename_i hp
   rcases EH p l (i+1) (by omega) with h | ⟨k,y,h1,h2,h3,h4⟩
   ·exact .inl h
   ·refine .inr ⟨k+1,y,by rw[h1]; push_cast; omega,by simpa using h2,h3,fun z hz=>?_⟩
    rw[WY] at hz
    rcases Vp.1 hz with rfl | hz
    ·simpa using hp
    ·exact h4 z hz
def xV:SF:=⟨.seq (ao [bj 6 0]) <|
 .seq (ao [aj 10 0,dg 11 10,aB 12 4 11,ax 13 12,aj 14 1,aj 15 2,((some 16),.op (.cg 1 1 [(.val (.int .i64 0))] [(0,(.tmp 15))])),bC 17 28 [13,14,16],aj 9 17,fK 18 0 9,fK 19 1 9,aj 7 18,aj 8 19]) <|
 .seq (ao [aj 20 7,aj 6 20]) <|
 .ret,
 [.tmp 6],21⟩
theorem Be:aV Tryz.prog 119 []=some xV:=by kernel_rfl
def qW:SF:=⟨.seq (ao [bK 3 false]) <|
 .seq (.region false [⟨none,[aj 4 0,aQ 5 .geq 4 0,aj 6 5]⟩,⟨(some (6,false)),[ax 7 1,dg 8 7,aB 9 5 8,ax 10 9,aj 11 0,((some 12),.op (.arith .sub (.val (.val (.int .i64 (-1)))) (.tmp 11))),aP 13 1 10 12,ax 14 13,dd 15 14]⟩,⟨none,[c6 16 6 15,aj 3 16]⟩]) <|
 .ret,
 [.tmp 3],17⟩
theorem vX:aV Tryz.prog 172 []=some qW:=by kernel_rfl
def te:SF:=⟨.seq (ao [cL 2 0,bK 4 false]) <|
 .seq (ao [aj 5 1,((some 6),.op (.sD 172 [] [(.tmp 2)])),bC 7 91 [5,6],dd 8 7,aj 4 8]) <|
 .ret,
 [.tmp 4],9⟩
theorem xY:aV Tryz.prog 121 [2]=some te:=by kernel_rfl
def C1:SC :=
 .seq (ao [bc 8 .lss 7 6]) <|
 .seq (.cond (.tmp 8) (.skip) (.exit 0)) <|
 .seq (.block 1 (.seq (ao [aP 9 1 5 7,ax 10 9,aj 4 10]) <|
 ao [aj 11 2,aj 12 4,bC 13 124 [12],bc 14 .or 11 13,aj 2 14])) <|
 ao [aQ 15 .add 7 1,aj 7 15]
def Hc:SF:=⟨.seq (ao [((some 2),.op (.bL (.val (.val (.int .u32 0)))))]) <|
 .seq (.seq (ao [aj 5 0,aX 6 5,bj 7 0]) <|
 .block 0 (.loop C1)) <|
 .seq (ao [aj 16 2,aj 2 16]) <|
 .ret,
 [.tmp 2],17⟩
theorem IV:aV Tryz.prog 120 []=some Hc:=by kernel_rfl
theorem F2 {H:View} {W:Nat} {f0 f1 f2 f3 f5 f6 f7 f8 f9:V} {a:List aR} (hW:H W=.arr 10 [[f0,f1,f2,f3,bm a,f5,f6,f7,f8,f9]]) (ha:aS a) (he:∀ s∈a,aS s.bk∧∀ e∈s.bk,cm e.sym∧cm e.to) (st sym:Int) :
  aC Tryz.prog 119 [.ptr W 0 0,gi st,gi sym] H fun r H'=>r=gi (fh a st [sym]).1∧∀ id,H id≠.dead→H' id=H id:=by
 refine aC.of mixed Be ?_
 simp (disch:=omega) only [↓wr,seval,wq,ah,ag,ak,aa,ab,af,ai,ae,xV,hW]
 intro q hq
 have hw:=PC a ha he st [sym] (by unfold aS; simp)
 refine aD.wM hw (by kernel_rfl) (.bI _ fun i hi=>by
  match i,hi with
  | 0,_=>exact ⟨_,rfl⟩
  | 1,_=>exact ⟨_,rfl⟩) ⟨.tree (mb a),.tree (.val _),dT.Qc (l:=[sym]) (.inr ⟨q,rfl,by simp[View.set]⟩),trivial⟩ ?_
 simp (disch:=omega) only [↓wr,seval,wq,ah,ag,ak,aa,ab,af,ai,ae]
 intro id hid
 rw[Va (fun e=>hid (by rw[e]; exact hq))]
set_option maxHeartbeats 2000000 in
theorem Mn (l:List Int) (hl:aS l) (f:FuncId) (cap:List V) (p:Int→Bool) (H:View) (hf:∀ x∈l,aC Tryz.prog f (gi x :: cap) H fun r H'=>r=gb (p x)∧H'=H) :
  aC Tryz.prog 133 [encI l,.fn f [] cap] H fun r H'=>r=gi (cE p l 0)∧H'=H:=by
 refine aC.of mixed iF ?_
 unfold aS at hl
 simp (disch:=omega) only [↓wr,seval,wq,ah,ag,ak,aa,ab,af,ai,ae,fY,encI]
 refine aZ.up l.length (fun i T H'=>H=H'∧cE p (l.drop i) i=cE p l 0∧T 0=encI l∧T 1=.fn f [] cap∧T 7=gi l.length∧T 8=gi i) ⟨rfl,rfl,rfl,rfl,rfl,rfl⟩ ?_
 rintro i k T _ hk ⟨rfl,hi,h0,h1,h7,h8⟩
 simp (disch:=omega) only [↓wr,seval,wq,ah,ag,ak,aa,ab,af,ai,ae,fG,h0,h1,h7,h8]
 refine av.dec (fun hc=>?_) (fun hc=>?_)
 ·have hg:l[i]?=some (l[i]'(by omega)):=U9 (by omega)
  have hm:l[i]'(by omega)∈l:=Vi _
  rw[eW (show i < l.length by omega)] at hi
  generalize l[i]'(by omega)=x at hg hm hi
  simp (disch:=omega) only [↓wr,seval,wq,ah,ag,ak,aa,ab,af,ai,ae,h0,h1,h7,h8,encI,Vc,hg,Vh]
  refine aD.dP ((hf x hm).mono ?_)
  rintro r H2 ⟨rfl,rfl⟩
  simp only[cE] at hi
  simp (disch:=omega) only [↓wr,seval,wq,ah,ag,ak,aa,ab,af,ai,ae]
  refine av.split (fun hp=>?_) (fun hp=>?_)
  ·simp (disch:=omega) only [↓wr,seval,wq,ah,ag,ak,aa,ab,af,ai,ae,h0,h1,h7,h8]
   rw[← hi,Vd hp]
  ·simp (disch:=omega) only [↓wr,seval,wq,ah,ag,ak,aa,ab,af,ai,ae,h0,h1,h7,h8]
   refine aM hk (by omega) ⟨rfl,?_,h0,h1,h7,rfl⟩
   rw[Va (by simp[hp])] at hi
   push_cast; exact hi
 ·rw[VD (by omega)] at hi
  simp (disch:=omega) only [↓wr,seval,wq,ah,ag,ak,aa,ab,af,ai,ae,h0,h1,h7,h8]
  rw[← hi]; rfl
theorem GY (l:List Int) (hl:aS l) (f:FuncId) (cap:List V) (p:Int→Bool) (H:View) (hf:∀ x∈l,aC Tryz.prog f (gi x :: cap) H fun r H'=>r=gb (p x)∧H'=H) :
  aC Tryz.prog 91 [encI l,.fn f [] cap] H fun r H'=>r=gb (l.any p)∧H'=H:=by
 refine aC.of mixed gZ ?_
 simp (disch:=omega) only [↓wr,seval,wq,ah,ag,ak,aa,ab,af,ai,ae,fw]
 refine aD.dP ((Mn l hl f cap p H hf).mono ?_)
 rintro r H2 ⟨rfl,rfl⟩
 simp (disch:=omega) only [↓wr,seval,wq,ah,ag,ak,aa,ab,af,ai,ae]
 rw[← sX p l 0 (Int.le_refl _)]
theorem O9 {H:View} {W:Nat} {f0 f1 f2 f3 f4 f6 f7 f8 f9:V} {null:List Bool} (hW:H W=.arr 10 [[f0,f1,f2,f3,f4,bP null,f6,f7,f8,f9]]) (s:Int) (hs:cm s∧(s < 0→-1 - s < null.length)) :
  aC Tryz.prog 172 [gi s,.aN [.ptr W 0 0] 0] H fun r H'=>r=gb (!(if 0≤s then false else null.getD (-1 - s).toNat false))∧H'=H:=by
 obtain ⟨hs1,hs2⟩:=hs
 unfold cm at hs1
 refine aC.of mixed vX ?_
 simp (disch:=omega) only [↓wr,seval,wq,ah,ag,ak,aa,ab,af,ai,ae,qW]
 refine av.dec (fun h0=>?_) (fun h0=>?_)
 ·simp (disch:=omega) only [↓wr,seval,wq,ah,ag,ak,aa,ab,af,ai,ae]
  rw[Vd h0]; rfl
 ·have hn:null[(-1 - s).toNat]?=some (null.getD (-1 - s).toNat false):=getD_some (by have:=hs2 (by omega); omega)
  generalize null.getD (-1 - s).toNat false=b at hn ⊢
  simp (disch:=omega) only [↓wr,seval,wq,ah,ag,ak,aa,ab,af,ai,ae,hW,bP,Vc,hn,Vh]
  rw[Va h0]
theorem Pg {H:View} {W:Nat} {f0 f1 f2 f3 f4 f6 f7 f8 f9:V} {null:List Bool} (hW:H W=.arr 10 [[f0,f1,f2,f3,f4,bP null,f6,f7,f8,f9]]) (l:List Int) (hl:aS l) (hs:∀ s∈l,cm s∧(s < 0→-1 - s < null.length)) :
  aC Tryz.prog 121 [.ptr W 0 0,encI l] H fun r H'=>r=gb (cQ l null false)∧H'=H:=by
 refine aC.of mixed xY ?_
 simp (disch:=omega) only [↓wr,seval,wq,ah,ag,ak,aa,ab,af,ai,ae,te]
 refine aD.dP ((GY l hl 172 [.aN [.ptr W 0 0] 0] (fun s=>!(if 0≤s then false else null.getD (-1 - s).toNat false)) H (fun s h=>O9 hW s (hs s h))).mono ?_)
 rintro r H2 ⟨rfl,rfl⟩
 simp (disch:=omega) only [↓wr,seval,wq,ah,ag,ak,aa,ab,af,ai,ae]
 rw[cQ,List.not_any_eq_all_not]
 simp
theorem Eb (t:Int):aI Tryz.prog 120 [encI [t]] (gw (dN t)):=by
 refine aI.val (by intro v hv; simp at hv; subst hv; exact eP _) fun H=>?_
 refine aC.of mixed IV ?_
 simp (disch:=omega) only [↓wr,seval,wq,ah,ag,ak,aa,ab,af,ai,ae,Hc,encI]
 refine aZ.up 1 (fun i T H'=>T 2=gw (if i=0 then 0 else dN t)∧T 5=encI [t]∧T 6=gi 1∧T 7=gi i) ⟨rfl,rfl,rfl,rfl⟩ ?_
 rintro i k T H' hk ⟨t2,t5,t6,t7⟩
 simp (disch:=omega) only [↓wr,seval,wq,ah,ag,ak,aa,ab,af,ai,ae,C1,t2,t5,t6,t7]
 refine av.dec (fun hc=>?_) (fun hc=>?_)
 ·have hi:i=0:=by omega
  subst hi
  simp (disch:=omega) only [↓wr,seval,wq,ah,ag,ak,aa,ab,af,ai,ae,t2,t5,t6,t7,encI,show ([[gi t]]:List (List V))[0]?=some [gi t] from rfl]
  refine aD.pure (NG t) (by kernel_rfl) ?_
  simp (disch:=omega) only [↓wr,↓reduceIte,wq,ah,ag,ak,aa,ab,af,ai,ae,Nat.reduceEqDiff,Nat.reduceAdd,Nat.reduceLT,Nat.reduceLeDiff,Int.reduceNeg,Int.reduceToNat,reduceCtorEq,t2,t5,t6,t7,sC]
  exact aM hk (by omega) ⟨by show gw ((0:BV) ||| dN t)=gw (dN t); rw[show ((0:BV) ||| dN t)=dN t by simp],t5,t6,rfl⟩
 ·have hi:i≠0:=by omega
  rw[Va hi] at t2
  simp (disch:=omega) only [↓wr,seval,wq,ah,ag,ak,aa,ab,af,ai,ae,t2]
end Gv
