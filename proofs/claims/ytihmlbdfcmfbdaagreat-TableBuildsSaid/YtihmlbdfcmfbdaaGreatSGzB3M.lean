/-
  Part 13 of the proof: what the machine does and what the functions answer.
  Conditions: those that each lemma names.
-/
import Derived.Test.YtihmlbdfcmfbdaaGreatSGzB3L
set_option linter.unusedSimpArgs false
set_option linter.unusedVariables false
set_option maxRecDepth 100000
set_option maxHeartbeats 20000000
namespace Gv
open Go Go.Proofs
def Ao (ls:List (List aB)):List (List V):=ls.map λl=>[.aD (aU l)]
def fh (g:aj) (a:List aM) (ul us:V) (more:Bool):List V:=[.aD (g.af.map bS),.aD (g.ak.map λs=>[gs s]),.aD (g.rules.map aO),gi g.start,ba a,ul,us,gb more]
def wZ:List V->Sets->List ct
 | v :: vs,s :: ss=>(v,1,bV s) :: wZ vs ss
 | _,_=>[]
structure cm (H:View) (b:Nat) (g:aj) (a:List aM) (ul us:V) (vs:List V) (ls:List (List aB)) (ss:Sets) (more:Bool) (L:List ct):Prop where
 len:vs.length=ss.length
 own:aX H ((.sl b 0 1 8,8,[fh g a ul us more]) :: (ul,1,Ao ls) :: (us,1,vs.map λv=>[v]) :: (wZ vs ss ++ L))
theorem zt:∀ (vs:List V) (ss:Sets) (i:Nat) (v:V),vs.length=ss.length->vs[i]?=some v->∃ P Q,wZ vs ss=P ++ (v,1,bV (ss.getD i [])) :: Q/\∀ r,wZ vs (ss.set i r)=P ++ (v,1,bV r) :: Q
 | [],_,i,v,_,h=>by simp at h
 | x :: vs,[],i,v,h,_=>by simp at h
 | x :: vs,s :: ss,0,v,_,h=>by
  simp at h;subst h
  exact⟨[],wZ vs ss,rfl,λr=>rfl⟩
 | x :: vs,s :: ss,i+1,v,hl,h=>by
  obtain⟨P,Q,h1,a⟩:=zt vs ss i v (by simpa using hl) (by simpa using h)
  refine⟨(x,1,bV s) :: P,Q,?_,λr=>?_⟩
  .simp[wZ,h1]
  .simp[wZ,a]
section
variable {H:View} {b:Nat} {g:aj} {a:List aM} {ul us:V} {vs:List V} {ls:List (List aB)} {ss:Sets} {more:Bool} {L:List ct}
theorem cm.box (h:cm H b g a ul us vs ls ss more L):H b=.arr 8 [fh g a ul us more]:=h.own.is 0 rfl (by simp)
theorem cm.lists (h:cm H b g a ul us vs ls ss more L) (hl:0 < ls.length):∃ n,ul=.sl n 0 ls.length 1/\H n=.arr 1 (Ao ls):=by
 obtain⟨n,h1,c⟩:=(h.own.own 1 rfl).sl (by simpa [Ao] using hl)
 exact⟨n,by simpa [Ao] using h1,c⟩
theorem cm.OO (h:cm H b g a ul us vs ls ss more L) (hl:0 < ss.length):∃ n,us=.sl n 0 ss.length 1/\H n=.arr 1 (vs.map λv=>[v]):=by
 obtain⟨n,h1,c⟩:=(h.own.own 2 rfl).sl (by simpa [h.len] using hl)
 exact⟨n,by simpa [h.len] using h1,c⟩
theorem cm.F7 {n k:Nat} (h:cm H b g a (.sl n 0 k 1) us vs ls ss more L) (hl:0 < ls.length):H n=.arr 1 (Ao ls)/\k=ls.length:=by
 obtain⟨m,h1,c⟩:=h.lists hl
 simp only[V.sl.injEq] at h1
 obtain⟨rfl,_,rfl,_⟩:=h1
 exact⟨c,rfl⟩
theorem cm.SA {n k:Nat} (h:cm H b g a ul (.sl n 0 k 1) vs ls ss more L) (hl:0 < ss.length):H n=.arr 1 (vs.map λv=>[v])/\k=ss.length:=by
 obtain⟨m,h1,c⟩:=h.OO hl
 simp only[V.sl.injEq] at h1
 obtain⟨rfl,_,rfl,_⟩:=h1
 exact⟨c,rfl⟩
theorem cm.row (h:cm H b g a ul us vs ls ss more L) {i:Nat} {v:V} (c:vs[i]?=some v):aV H v 1 (bV (ss.getD i [])):=by
 obtain⟨P,Q,h1,_⟩:=zt vs ss i v h.len c
 refine h.own.1 (v,1,bV (ss.getD i [])) (ZE _ (ZE _ (ZE _ (aaT _ ?_))))
 rw[h1];simp
theorem Ki {α:Type} {x y z e:α} {P Q L:List α} : (x :: y :: z :: ((P ++ e :: Q) ++ L)).Perm (e :: x :: y :: z :: ((P ++ Q) ++ L)):=by
 have h:((P ++ e :: Q) ++ L).Perm (e :: ((P ++ Q) ++ L)):=by
  simp
 exact(((h.cons z).cons y).cons x).trans (ZY (a:=e) (l₁:=[x,y,z]) (l₂:=(P ++ Q) ++ L))
theorem cm.put (h:cm H b g a ul us vs ls ss more L) {i n k:Nat} (c:vs[i]?=some (.sl n 0 k 1)) {r:List BV} (hr:r.length=(ss.getD i []).length) (hk:k=(ss.getD i []).length):cm (H.set n (.arr 1 (bV r))) b g a ul us vs ls (ss.set i r) more L:=by
 obtain⟨P,Q,h1,d⟩:=zt vs ss i _ h.len c
 refine⟨by rw[aa1];exact h.len,?_⟩
 have o:=h.own
 rw[h1] at o
 have e:=(o.perm Ki).put (es':=bV r) (by simp[hr]) (by simp[hk])
 rw[d]
 exact e.perm Ki.symm
theorem cm.flag (h:cm H b g a ul us vs ls ss more L) (m:Bool):cm (H.set b (.arr 8 [fh g a ul us m])) b g a ul us vs ls ss m L:=⟨h.len,h.own.put rfl rfl⟩
theorem cm.fresh (h:cm H b g a ul us vs ls ss more L) {n:Nat} {o:cU} (c:H n=.dead):cm (H.set n o) b g a ul us vs ls ss more L:=⟨h.len,h.own.fresh c⟩
end
theorem ED {ls:List (List aB)} {i:Nat} (h:i < ls.length):(Ao ls).getD i []=[.aD (aU (ls.getD i []))]:=by simp[Ao,Zi,h]
theorem Ej {vs:List V} {i:Nat} {v:V} (h:vs[i]?=some v):(vs.map λv=>[v]).getD i []=[v]:=by simp[Zi,h]
def lN:SC :=
 ae [ae [ab [aa 9 8,aa 10 0,cQ 11 10,ao 12 5 11,ai 13 12,aa 14 1,aH 15 1 13 14,ai 16 15,aP 17 16,aS 18 .lss 9 17],bT 18 (.exit 0)],.block 1 (ae [.region false [⟨none,[aa 21 0,cQ 22 21,ao 23 5 22,ai 24 23,aa 25 1,aH 26 1 24 25,ai 27 26,aa 28 8,aH 29 2 27 28,aT 30 2 29,aT 31 2 6,((some 32),.op (.old (.binOp .eql 33 (.tmp 30) (.tmp 31) 33) 4)),aa 33 32]⟩,⟨(some (33,true)),[aa 34 3,aa 35 0,cQ 36 35,ao 37 6 36,ai 38 37,aa 39 1,aH 40 1 38 39,ai 41 40,aa 42 8,aH 43 1 41 42,ai 44 43,aS 45 .andNot 34 44,((some 46),.op (.arith .neq (.tmp 45) (.val (.val (.int .u32 0)))))]⟩,⟨none,[eF 47 33 46]⟩],bc 47 (ae [ab [aa 48 0,cQ 49 48,ao 50 6 49,ai 51 50,aa 52 1,aH 53 1 51 52,ai 54 53,aa 55 8,aa 56 0,cQ 57 56,ao 58 6 57,ai 59 58,aa 60 1,aH 61 1 59 60,ai 62 61,aa 63 8,aH 64 1 62 63,ai 65 64,aa 66 3,aS 67 .or 65 66,aH 68 1 54 55,bK 1 68 67],ab [aa 69 0,cQ 70 69,ao 71 7 70,(none,.op (.store 1 (.tmp 71) (.val (.val (.bool true)))))]])]),ab [aa 19 8,aG 20 .add 19 1,aa 8 20]]
def mY:SF:=⟨ae [ab [cw 6 2],ab [aQ 8 0],bU 0 lN],
 [],72⟩
theorem tg:aN Tryz.prog 76 [6]=some mY:=by kernel_rfl
def ir (l:List aB) (row:List BV) (x:aB) (s:BV) (i:Nat):List BV:=(jI l row x s).take i ++ row.drop i
theorem Qn {l:List aB} {row:List BV} {x:aB} {s:BV} (h:row.length=l.length) (i:Nat) (hi:i<=l.length):(ir l row x s i).length=row.length:=by
 simp[ir,kZ h];omega
theorem Sq {l:List aB} {row:List BV} {x:aB} {s:BV} (h:row.length=l.length) {i:Nat} (hi:i < l.length):(ir l row x s i)[i]?=row[i]?:=by
 unfold ir
 rw[Z3 (by simp[kZ h];omega)]
 simp[kZ h,Nat.min_eq_left (show i<=row.length by omega)]
theorem Ps {l:List aB} {row:List BV} {x:aB} {s:BV} (h:row.length=l.length) {i:Nat} {y:aB} {v:BV} (a:l[i]?=some y) (b:row[i]?=some v):ir l row x s (i+1)=if y=x then (ir l row x s i).set i (v ||| s) else ir l row x s i:=by
 have hi:=(Zy.1 a).1
 have c:(jI l row x s)[i]?=some (if y=x then v ||| s else v):=by simp[jI,List.getElem?_zipWith,a,b]
 have hd:row.drop i=v :: row.drop (i+1):=by
  obtain⟨q,e⟩:=Zy.1 b
  rw[aad q,e]
 have hl:((jI l row x s).take i).length=i:=by simp[kZ h];omega
 unfold ir
 rw[ZG,c,hd]
 split
 .rw[List.set_append_right _ _ (by omega),hl,Nat.sub_self,List.set_cons_zero]
  simp
 .simp
theorem JG {α:Type} {l:List α} {i:Nat} {d:α} (h:i < l.length):l.set i (l.getD i d)=l:=by
 rw[Zi,Zj h]
 exact List.set_getElem_self h
theorem kW (ls:List (List aB)):(Ao ls).length=ls.length:=by simp[Ao]
theorem Rv (l:List BV) (i:Nat) (z:BV):(bV l).set i [gw z]=bV (l.set i z):=by rw[bV,bV,aaR]
theorem mH (l:List BV):(bV l).length=l.length:=by simp
theorem Qw {α:Type} (l:List α) (i:Nat) (x y:α):(l.set i x).set i y=l.set i y:=by simp
theorem LA {α:Type} {l:List α} {i:Nat} {r d:α} (h:i < l.length):l.set i r=l↔r=l.getD i d:=by
 constructor
 .intro e
  have a:(l.set i r).getD i d=l.getD i d:=by rw[e]
  rw[eS,Zn ⟨rfl,h⟩] at a
  exact a
 .rintro rfl;exact JG h
theorem FU (g:aj) (a:List aM) (ul us:V) (vs:List V) (ls:List (List aB)) (ss:Sets) (more:Bool) (L:List ct) (b:Nat) (H:View) (c:cm H b g a ul us vs ls ss more L) (F:kR ls ss) (Q:∀ l∈ls,l.length<=10000) (st:Nat) (n:st < ls.length) (x:aB) (s:BV) :
  au Tryz.prog 76 [.ptr b 0 0,gi st,.agg (bE x),gw s] H λ_ H'=>cm H' b g a ul us vs ls (fO ls ss st x s) (more || decide (fO ls ss st x s≠ss)) L:=by
 refine au.of mixed tg ?_
 have f:st < ss.length:=by rw[F.1];exact n
 have hl:=ED n
 have an:=Q _ (Zp (getD_some (d:=[]) n))
 have u:=F.2 st
 have G:vs[st]?=some (vs[st]'(by rw[c.len];exact f)):=Zj _
 generalize vs[st]'(by rw[c.len];exact f)=v at G
 obtain⟨nl,rfl,_⟩:=c.lists (by omega)
 obtain⟨Y,rfl,_⟩:=c.OO (by omega)
 simp(disch:=omega)only[↓wr,seval,wq,mY,bE]
 unfold fO
 generalize ls.getD st []=l at *
 generalize B:ss.getD st []=row at *
 refine aR.up l.length (λi T H'=>∃ m:Bool,(m=(more || decide (ir l row x s i≠row)))/\cm H' b g a (.sl nl 0 ls.length 1) (.sl Y 0 ss.length 1) vs ls (ss.set st (ir l row x s i)) m L/\T 0=.ptr b 0 0/\T 1=gi st/\T 3=gw s/\T 6=.aI (bE x) 0/\T 8=gi i) ?_ ?_
 .have P:ir l row x s 0=row:=by simp[ir]
  refine⟨more,by rw[P];simp,?_,rfl,rfl,rfl,rfl,rfl⟩
  rw[P,<-B,JG f]
  exact c
 rintro i k T H' hk ⟨m,hm,c,t0,t1,t3,t6,t8⟩
 have I:=c.box
 have J:=(c.F7 (by omega)).1
 simp(disch:=omega)only[↓wr,seval,wq,lN,t0,t1,t3,t6,t8,I,fh,J,hl,kW,bJ]
 refine⟨n,n,?_⟩
 apply ah.dec<;>intro t
 .have j:i < l.length:=by omega
  have R:l[i]?=some (l[i]'j):=Zj j
  have hw:row[i]?=some (row[i]'(by omega)):=Zj (by omega)
  generalize l[i]'j=y at R
  generalize row[i]'(by omega)=w at hw
  have o:=Sq (x:=x) (s:=s) u j
  rw[hw] at o
  have S:=Qn (x:=x) (s:=s) u i (by omega)
  have p:=Ps (x:=x) (s:=s) u R hw
  have C:(ss.set st (ir l row x s i)).getD st []=ir l row x s i:=by rw[eS,Zn ⟨rfl,f⟩]
  have K:=c.row G
  rw[C] at K
  obtain⟨nv,z,A⟩:=K.sl (by rw[mH];omega)
  have M:=(c.SA (by rw[aa1];omega)).1
  have U:¬ b=nv:=by rintro rfl;rw[I] at A;simp at A
  rw[mH] at z
  generalize aq:ir l row x s i=cur at *
  simp(disch:=omega)only[↓wr,seval,wq,t0,t1,t3,t6,t8,I,fh,J,hl,kW,aU,Zm,R,Zq,bE]
  refine⟨n,n,?_⟩
  refine fQ (xs:=#[.int .i64 y.aw,.int .i64 y.dot]) (ys:=#[.int .i64 x.aw,.int .i64 x.dot]) Tryz.underlying33 (by kernel_rfl) (by kernel_rfl) ?_ ?_ (mr y x) (.inl ⟨rfl,rfl⟩) ?_
  .rfl
  .rfl
  rw[uV]
  simp(disch:=omega)only[↓wr,seval,wq,t0,t1,t3,t6,t8]
  have same:ir l row x s (i+1)=cur->∀ D:Env,D 0=.ptr b 0 0->D 1=gi st->D 3=gw s->D 6=.aI (bE x) 0->D 8=gi ((i:Int)+1)->∃ Z,Z < k/\FM l.length Z (λi T H'=>∃ m:Bool,(m=(more || decide (ir l row x s i≠row)))/\cm H' b g a (.sl nl 0 ls.length 1) (.sl Y 0 ss.length 1) vs ls (ss.set st (ir l row x s i)) m L/\T 0=.ptr b 0 0/\T 1=gi st/\T 3=gw s/\T 6=.aI (bE x) 0/\T 8=gi i) D H':=λe D P e1 e3 e6 e8 =>
   aE hk j ⟨m,by rw[e];exact hm,by rw[e];exact c,P,e1,e3,e6,e8⟩
  apply ah.dec<;>intro he
  rotate_left
  .rw[Zk he] at p
   simp(disch:=omega)only[↓wr,seval,wq,t0,t1,t3,t6,t8]
   exact same p _ t0 t1 t3 t6 rfl
  rw[Zn he] at p
  simp(disch:=omega)only[↓wr,seval,wq,t0,t1,t3,t6,t8,I,fh,M,Ej G,z,A,xH o,Uf]
  refine⟨by omega,by rw[c.len,aa1];omega,by omega,by omega,?_⟩
  apply ah.ne<;>intro W
  .have E:¬ iT s w:=λh=>W (toNat_zero.2 (CB.2 h))
   have t:=c.put (r:=cur.set i (w ||| s)) (by rw[<-z];exact G) (by rw[C,aa1]) (by rw[C])
   rw[Qw] at t
   have ar:=t.box
   simp(disch:=omega)only[↓wr,seval,wq,t0,t1,t3,t6,t8,I,fh,M,Ej G,z,A,xH o,vi,Rv,U]
   have N:st < vs.length:=by rw[c.len,aa1];exact f
   have X:ir l row x s (i+1)≠row:=λe=>by
    have h1:(cur.set i (w ||| s))[i]?=some (w ||| s):=by rw[abb (by omega)]
    rw[<-p,e,hw] at h1
    simp only[Zl] at h1
    rw[BitVec.or_comm] at h1
    exact E (F9.1 h1.symm)
   refine⟨f,N,f,N,by omega,by omega,by omega,by omega,aE hk j ⟨true,by rw[abn X,Bool.or_true],?_,t0,t1,t3,t6,rfl⟩⟩
   rw[p]
   exact t.flag true
  .have O:iT s w:=CB.1 (toNat_zero.1 W)
   simp(disch:=omega)only[↓wr,seval,wq,t0,t1,t3,t6,t8]
   refine same ?_ _ t0 t1 t3 t6 rfl
   rw[p,show w ||| s=w by rw[BitVec.or_comm];exact F9.2 O]
   obtain⟨q,e⟩:=Zy.1 o
   rw[<-e];exact List.set_getElem_self q
 .have j:i=l.length:=by omega
  have e:ir l row x s i=jI l row x s:=by
   subst j
   unfold ir
   rw[Zx (by rw[kZ u];omega),ZQ (by omega),aav]
  rw[e] at hm c
  simp(disch:=omega)only[↓wr,seval,wq]
  rw[hm] at c
  rw[show decide (ss.set st (jI l row x s)≠ss)=decide (jI l row x s≠row) by
   simp only[ne_eq,LA (d:=[]) f,B]]
  exact c
theorem oL {α:Type} {x y z e:α} {Z L:List α} : (x :: y :: z :: (Z ++ e :: L)).Perm (e :: x :: y :: z :: (Z ++ L)) :=
 ((((ZY (a:=e) (l₁:=Z) (l₂:=L)).cons z).cons y).cons x).trans (ZY (a:=e) (l₁:=[x,y,z]) (l₂:=Z ++ L))
section
variable {H:View} {b:Nat} {g:aj} {a:List aM} {ul us:V} {vs:List V} {ls:List (List aB)} {ss:Sets} {more:Bool} {L:List ct}
theorem cm.Yo (h:cm H b g a ul us vs ls ss more L) {n:Nat} (c:H n=.dead) (sz:Nat) (es:List (List V)):cm (H.set n (.arr sz es)) b g a ul us vs ls ss more ((.sl n 0 es.length sz,sz,es) :: L) :=
 ⟨h.len,(h.own.new c sz es).perm oL.symm⟩
theorem cm.drop {e:ct} (h:cm H b g a ul us vs ls ss more (e :: L)):cm H b g a ul us vs ls ss more L :=
 ⟨h.len,(h.own.perm oL).tail⟩
theorem cm.Xz {n k sz:Nat} {es:List (List V)} (h:cm H b g a ul us vs ls ss more ((.sl n 0 k sz,sz,es) :: L)) (he:0 < es.length):H n=.arr sz es :=
 (h.own.perm oL).is 0 rfl he
end
theorem I4 {a s1 s2:Sets} (h:kP a s1) (k:kP s1 s2):(decide (s1≠a) || decide (s2≠s1))=decide (s2≠a):=by
 rw[aan]
 simp only[aam,ZA]
 constructor
 .rintro (e | e) b
  .subst b;exact e (k.uU h)
  .subst b;exact e (h.uU k)
 .intro e
  by_cases c:s1=a
  .exact .inr (by rw[c];exact e)
  .exact .inl c
theorem Ug {g:aj} (hr:bI g=true) {x:aB} (b:cB g x) (s:BV):MW g (dG g x) s=eR (av g false) (eL g (av g false)) s (dG g x):=by
 have h:bI g=true/\∀ s∈dG g x,fT g s=true:=⟨hr,λy a=>by
  unfold dG at a
  split at a
  .have c:g.rules[x.aw.toNat]?=some (ay g x.aw):=by unfold ay;exact getD_some (by have:=b.1;omega)
   exact(bD hr).sym _ (Zp c) y (List.mem_of_mem_drop a)
  .simp at a⟩
 rw[MW,Zn h]
structure Rp (g:aj) (a:List aM) (ls:List (List aB)):Prop where
 VC:g.Ok
 right:bI g=true
 len:ls.length=a.length
 Of:1<=a.length
 short:a.length<=300
 aK:∀ s∈a,aJ s.aK/\∀ e∈s.aK,cp e.sym/\cp e.to
 item:∀ l∈ls,l.length<=10000/\∀ x∈l,cB g x
def lM:SC :=
 ae [ae [ab [aa 96 13,aa 97 0,cQ 98 97,ao 99 0 98,ao 100 2 99,ai 101 100,aP 102 101,aS 103 .lss 96 102],bT 103 (.exit 0)],.block 1 (ae [ab [aa 106 0,cQ 107 106,ao 108 0 107,ao 109 2 108,ai 110 109,aa 111 13,aH 112 3 110 111,ao 113 0 112,ai 114 113,aa 115 8,((some 116),.op (.arith .sub (.val (.val (.int .i64 (-1)))) (.tmp 115))),aS 117 .eql 114 116],bc 117 (ab [aa 118 0,aa 119 1,aa 120 13,((some 121),.op (.build [(.val (.int .i64 0)),(.val (.int .i64 0))] [(0,1,(.tmp 120))])),aa 122 7,bh 123 76 [118,119,121,122]])]),ab [aa 104 13,aG 105 .add 104 1,aa 13 105]]
def nf:SF:=⟨ae [ab [aa 14 0,cQ 15 14,ao 16 5 15,ai 17 16,aa 18 1,aH 19 1 17 18,ai 20 19,aa 21 2,aH 22 2 20 21,aT 23 2 22,aa 24 0,cQ 25 24,ao 26 6 25,ai 27 26,aa 28 1,aH 29 1 27 28,ai 30 29,aa 31 2,aH 32 1 30 31,ai 33 32,((some 6),.op (.alloc [(.val (.int .i64 0)),(.val (.int .i64 0))])),bK 2 6 23,aa 7 33],ab [aa 35 0,cQ 36 35,ao 37 0 36,aT 38 4 37,aT 39 2 6,bh 40 18 [38,39],aa 34 40,dW 41 0 34,dW 42 1 34,aa 8 41,aa 9 42],ae [.region false [⟨none,[aa 43 9,c6 44 43,aa 45 44]⟩,⟨(some (45,false)),[aa 46 7,((some 47),.op (.arith .eql (.tmp 46) (.val (.val (.int .u32 0)))))]⟩,⟨none,[cD 48 45 47]⟩],bc 48 (.ret)],ab [aa 50 0,cQ 51 50,ao 52 4 51,ai 53 52,aa 54 1,aa 55 8,((some 56),.op (.bO 1 1 [(.val (.int .i64 0))] [(0,(.tmp 55))])),bh 57 29 [53,54,56],aa 49 57,dW 58 0 49,dW 59 1 49,aa 10 58,aa 11 59],ab [aa 60 0,aa 61 10,ao 62 0 6,ai 63 62,ao 64 1 6,ai 65 64,aG 66 .add 65 1,((some 67),.op (.build [(.val (.int .i64 0)),(.val (.int .i64 0))] [(0,1,(.tmp 63)),(1,1,(.tmp 66))])),aa 68 7,bh 69 76 [60,61,67,68]],ae [ab [aa 70 8,aG 71 .geq 70 0],bc 71 (.ret)],ab [cq 12 1],ae [ab [ao 72 0 6,ai 73 72,aG 74 .geq 73 0],bc 74 (ab [aa 75 0,cQ 76 75,ao 77 0 76,ao 78 2 77,ai 79 78,ao 80 0 6,ai 81 80,aH 82 3 79 81,ao 83 1 82,ai 84 83,ao 85 1 6,ai 86 85,aG 87 .add 86 1,((some 88),.op (.slice 1 (.tmp 84) (some (.tmp 87)) none)),aa 12 88])],ab [aa 89 0,cQ 90 89,ao 91 0 90,aT 92 4 91,aa 93 12,aa 94 7,bh 95 123 [92,93,94],aa 7 95],ab [aQ 13 0],bU 0 lM],
 [],124⟩
theorem tj:aN Tryz.prog 78 []=some nf:=by kernel_rfl
theorem zQ {g:aj} (a:g.dP) {x:aB} (h:cB g x):cp x.aw/\cp x.dot:=by
 have:=fp a h.1
 have:=a.rules
 obtain⟨⟨h1,b⟩,c,d⟩:=h
 unfold cp;omega
theorem ep.nil {H:View} {k:Nat} : ep H (.emp k) (encI []):=λ_ _=>.emp k
theorem V9 (g:aj) (a:List aM) (ul us:V) (vs:List V) (ls:List (List aB)) (ss:Sets) (more:Bool) (L:List ct) (b:Nat) (H:View) (hW:Rp g a ls) (z:cm H b g a ul us vs ls ss more L) (r:kR ls ss) (i k:Nat) (hi:i < ls.length) (hk:k < (ls.getD i []).length) :
  au Tryz.prog 78 [.ptr b 0 0,gi i,gi k] H λ_ H'=>cm H' b g a ul us vs ls (jv g (av g false) a ls i k ss) (more || decide (jv g (av g false) a ls i k ss≠ss)) L:=by
 refine au.of mixed tj ?_
 have Q:=bD hW.right
 have S:∀ l∈ls,l.length<=10000:=λl hl=>(hW.item l hl).1
 have U:=hW.len
 have b9:=hW.short
 have cc:=Q.rules
 have A:i < ss.length:=by rw[r.1];exact hi
 have hl:=ED hi
 have bd:=hW.item _ (Zp (getD_some (d:=[]) hi))
 have cf:=r.2 i
 have hx:(ls.getD i [])[k]?=some ((ls.getD i []).getD k ⟨0,0⟩):=getD_some hk
 have hw:(ss.getD i [])[k]?=some (ec ss i k):=getD_some (by omega)
 have c:=bd.2 _ (Zp hx)
 have t:=KV (null:=av g false) (g:=g) U hW.Of hi k r
 have hv:vs[i]?=some (vs[i]'(by rw[z.len];exact A)):=Zj _
 generalize vs[i]'(by rw[z.len];exact A)=v at hv
 obtain⟨nl,rfl,W⟩:=z.lists (by omega)
 obtain⟨nu,rfl,X⟩:=z.OO (by omega)
 obtain⟨nv,rfl,Y⟩:=(z.row hv).sl (by rw[mH];omega)
 have bl:i < vs.length:=by rw[z.len];exact A
 have hb:=z.box
 unfold jv at t ⊢
 generalize (ls.getD i []).getD k ⟨0,0⟩=x at *
 generalize ec ss i k=w at *
 have f:=Ia g hW.VC x (zQ Q c)
 rw[Fi,Zn (pI.2 ⟨hW.right,c⟩)] at f
 have E:=Ug hW.right c
 cases F:bA g x with
 | mk sym bn =>
 have cg:=tE Q c F
 have ca:=zQ Q c
 have bq:=fp Q c.1
 have ch:0<=x.dot/\x.dot<=6:=⟨c.2.1,by have:=c.2.2;omega⟩
 rw[F] at f t
 simp only[ag,encS,bE] at f
 simp(disch:=omega)only[↓wr,seval,wq,nf,hb,fh,W,hl,kW,aU,Zm,hx,Zq,bE,X,Ej hv,Y,xH hw,mH]
 refine⟨hi,hi,A,bl,by omega,by omega,?_⟩
 intro bx G
 rw[set_set]
 have m:=z.Yo G 2 [[gi x.aw,gi x.dot]]
 have I:=m.box
 have Z:=m.Xz (by simp)
 have br:¬ b=bx:=by rintro rfl;rw[hb] at G;simp at G
 simp(disch:=omega)only[↓wr,seval,wq,br]
 refine ax.pure f ?_
 generalize H.set bx (.arr 2 [[gi x.aw,gi x.dot]])=H1 at m I Z ⊢
 clear z W X Y hb
 simp(disch:=omega)only[↓wr,seval,wq]
 cases bn with
 | false =>
  simp(disch:=omega)only[↓wr,seval,wq]
  simp
  exact m.drop
 | true =>
  simp(disch:=omega)only[↓wr,seval,wq]
  apply ah.eq<;>intro hz
  .have u:w=0#32:=toNat_zero.1 hz
   simp(disch:=omega)only[↓wr,seval,wq]
   rw[Zn u]
   simp
   exact m.drop
  .have u:¬ w=0#32:=λe=>hz (toNat_zero.2 e)
   rw[Zk (λh=>h.elim (by simp) u)] at t
   simp only at t
   have bs:=Ir a (by unfold aJ;omega) hW.aK i [sym] (by unfold aJ;simp)
   have y:=uM U hW.Of i [sym]
   have cj:0<=(dY a i [sym]).1:=by
    unfold dY
    split
    .simp
    .exact(Bf (a:=a) _ _ (by omega) (by omega)).1
   simp(disch:=omega)only[↓wr,seval,wq,I,fh]
   intro q hq
   refine ax.wE bs (by kernel_rfl) (.bt _ λj hj=>by
    match j,hj with
    | 0,_=>exact⟨_,rfl⟩
    | 1,_=>exact⟨_,rfl⟩) ⟨.tree (lg a),.tree (.val _),Fc (l:=[sym]) (by simp[View.set]) rfl,trivial⟩ ?_
   have J:=m.fresh (o:=.arr 1 [[gi sym]]) hq
   have an:=J.Xz (by simp)
   generalize H1.set q (.arr 1 [[gi sym]])=H2 at J an ⊢
   clear m I Z hq
   generalize (dY a i [sym]).1=to at *
   obtain⟨aq,rfl⟩:∃ n:Nat,to=n:=⟨to.toNat,by omega⟩
   rw[ZK] at *
   simp(disch:=omega)only[↓wr,seval,wq,an]
   refine ax.dJ ((FU g a _ _ vs ls ss more _ b H2 J r S aq y ⟨x.aw,x.dot+1⟩ w).mono ?_)
   intro _ H3 B
   have ar:=jf r y ⟨x.aw,x.dot+1⟩ w
   have a1:=mw r y ⟨x.aw,x.dot+1⟩ w
   generalize fO ls ss aq ⟨x.aw,x.dot+1⟩ w=p at *
   have K:=B.box
   have M:=B.Xz (by simp)
   simp(disch:=omega)only[↓wr,seval,wq]
   apply ah.dec<;>intro hs
   .simp(disch:=omega)only[↓wr,seval,wq]
    rw[Zk u,Zn hs]
    exact B.drop
   .rw[Zk hs] at t
    have b0:=(rW F).1
    have b1:=c.2
    have b2:∀ s∈dG g x,cp s:=by
     intro s hs
     unfold dG at hs
     split at hs
     .have hR:g.rules[x.aw.toNat]?=some (ay g x.aw):=by unfold ay;exact getD_some (by have:=c.1;omega)
      exact(hW.VC.aw _ (Zp hR)).2.2.2 s (List.mem_of_mem_drop hs)
     .simp at hs
    have b3:(dG g x).length<=6:=by
     unfold dG
     split
     .rename_i h0
      rw[aW,Zk (by omega)] at bq
      simp;omega
     .simp
    have h2:=VU g hW.VC (dG g x) w (by unfold aJ;omega) b2
    rw[E w] at h2
    simp only[ag,encS] at h2
    generalize ck:eR (av g false) (eL g (av g false)) w (dG g x)=s2 at *
    simp(disch:=omega)only[↓wr,seval,wq,M]
    have key:∀ v12:V,ep H3 v12 (encI (dG g x))->qA H3 [.agg [.aD (g.af.map bS),.aD (g.ak.map λs=>[gs s]),.aD (g.rules.map aO),gi g.start],v12,gw w] [.agg [.aD (g.af.map bS),.aD (g.ak.map λs=>[gs s]),.aD (g.rules.map aO),gi g.start],encI (dG g x),gw w]:=λv12 h =>
     ⟨.tree (cb _ (cY g)),h,.tree (.val _),trivial⟩
    apply ah.dec<;>intro h0
    have hR:g.rules[x.aw.toNat]?=some (ay g x.aw):=by unfold ay;exact getD_some (by have:=c.1;omega)
    have b4:aW g x.aw=(ay g x.aw).right:=by rw[aW,Zk (by omega)]
    rw[b4] at b0 b1
    have N:=y9 (l:=(ay g x.aw).right) (k:=(x.dot+1).toNat) (by omega)
    rw[show (((x.dot+1).toNat:Nat):Int)=x.dot+1 by omega] at N
    have C:dG g x=(ay g x.aw).right.drop (x.dot+1).toNat:=by rw[dG,Zn (by omega)]
    generalize ay g x.aw=R at hR N C
    simp(disch:=omega)only[↓wr,seval,wq,M,K,fh,Zm,hR,Zq,aO,encI,N]
    refine ax.wE h2 (by kernel_rfl) (.val _) (key _ (by rw[C];exact .tree (ew _))) ?_
    rotate_left
    have C:dG g x=[]:=by rw[dG,Zk (by omega)]
    simp(disch:=omega)only[↓wr,seval,wq,M,K,fh]
    refine ax.wE h2 (by kernel_rfl) (.val _) (key _ (by rw[C];exact .nil)) ?_
    all_goals (
     simp(disch:=omega)only[↓wr,seval,wq,K]
     refine aR.up g.rules.length (λq T H'=>cm H' b g a (.sl nl 0 ls.length 1) (.sl nu 0 ss.length 1) vs ls (fE g ls i sym s2 p q) (more || decide (fE g ls i sym s2 p q≠ss)) ((.sl bx 0 1 2,2,[[gi x.aw,gi x.dot]]) :: L)/\T 0=.ptr b 0 0/\T 1=gi i/\T 7=gw s2/\T 8=gi sym/\T 13=gi q) ⟨B,rfl,rfl,rfl,rfl,rfl⟩ ?_
     rintro q k2 T4 H4 a6 ⟨D,t0,t1,t7,t8,t13⟩
     have a7:=D.box
     simp(disch:=omega)only[↓wr,seval,wq,lM,t0,t1,t7,t8,t13,a7,fh]
     apply ah.dec<;>intro b5
     .have O:q < g.rules.length:=by omega
      have P:g.rules[q]?=some (ay g (q:Int)):=by unfold ay;rw[ZK];exact getD_some O
      have hL:=Q.left _ (Zp P)
      obtain⟨a8,b7⟩:=kK (g:=g) hi sym s2 q p ar
      have e1:fE g ls i sym s2 p (q+1)=if (ay g (q:Int)).left = -1 - sym then fO ls (fE g ls i sym s2 p q) i ⟨q,0⟩ s2 else fE g ls i sym s2 p q:=by
       unfold fE
       rw[Z8,Z7]
       rfl
      generalize ay g (q:Int)=R at P hL e1
      generalize fE g ls i sym s2 p q=cr at *
      simp(disch:=omega)only[↓wr,seval,wq,t0,t1,t7,t8,t13,a7,fh,Zm,P,Zq,aO]
      apply ah.eq<;>intro he
      .simp(disch:=omega)only[↓wr,seval,wq,t0,t1,t7,t8,t13]
       refine ax.dJ ((FU g a _ _ vs ls _ _ _ b H4 D a8 S i hi ⟨q,0⟩ s2).mono ?_)
       intro _ H5 bb
       simp(disch:=omega)only[↓wr,seval,wq,t0,t1,t7,t8,t13]
       rw[Zn he] at e1
       rw[Bool.or_assoc,I4 (a1.trans b7) (mw a8 hi _ _),<-e1] at bb
       exact aE a6 O ⟨bb,t0,t1,t7,t8,rfl⟩
      .simp(disch:=omega)only[↓wr,seval,wq,t0,t1,t7,t8,t13]
       rw[Zk he] at e1
       exact aE a6 O ⟨by rw[e1];exact D,t0,t1,t7,t8,rfl⟩
     .simp(disch:=omega)only[↓wr,seval,wq]
      rw[Zk u,Zk hs]
      have b8:q=g.rules.length:=by omega
      subst b8
      exact D.drop)
section
variable {H:View} {b:Nat} {g:aj} {a:List aM} {ul us:V} {vs:List V} {ls:List (List aB)} {ss:Sets} {more:Bool} {L:List ct}
theorem cm.goApp {u:V} {sz bytes:Nat} {es xs:List (List V)} {K:V->View->Prop} {w:cO (H,K)} (h:cm H b g a ul us vs ls ss more ((u,sz,es) :: L)) (d:(xs.all λe=>e.length == sz && e.all aL)=true)
  (hl:(es.length+xs.length) * bytes < aA) (f:es.length+xs.length < aA) (hk:∀ c H',cm H' b g a ul us vs ls ss more ((c,sz,es ++ xs) :: L)->K c H'):nZ sz bytes u xs H K w :=
 bL (h.own.perm oL) d hl f λc H' i _=>hk c H' ⟨h.len,i.perm oL.symm⟩
theorem cm.emp (h:cm H b g a ul us vs ls ss more L) (k sz:Nat):cm H b g a ul us vs ls ss more ((.emp k,sz,[]) :: L):=⟨h.len,(h.own.emp (k:=k) (sz:=sz)).perm oL.symm⟩
theorem cm.Vm {u:V} {sz:Nat} {es:List (List V)} (h:cm H b g a ul us vs ls ss more ((u,sz,es) :: L)):aV H u sz es:=(h.own.perm oL).head
theorem cm.Vp {c:List ct} (h:cm H b g a ul us vs ls ss more L) (p:L.Perm c):cm H b g a ul us vs ls ss more c:=⟨h.len,h.own.perm (((p.append_left _).cons _).cons _ |>.cons _)⟩
end
theorem SM (a:List aM):V.cells (ba a)=[ba a]:=id rfl
theorem Xm (a:List aM):aL (ba a)=true:=id rfl
def gQ (ls:List (List aB)):Sets:=ls.map λl=>List.replicate l.length 0
theorem Re (ls:List (List aB)):kR ls (gQ ls):=by
 refine⟨by simp[gQ],λi=>?_⟩
 simp only[gQ,Zi,Zm]
 cases ls[i]? <;> simp
theorem Im (ls:List (List aB)) (i k:Nat):ec (gQ ls) i k=0:=by
 simp only[ec,gQ,Zi,Zm]
 cases ls[i]? with
 | none=>simp
 | some l =>
  simp only[Zq,ZC,aaO]
  split <;> rfl
theorem JI:∀ {vs:List V} {ss:Sets} (v:V) (r:List BV),vs.length=ss.length->wZ (vs ++ [v]) (ss ++ [r])=wZ vs ss ++ [(v,1,bV r)]
 | [],[],v,r,_=>rfl
 | [],_ :: _,_,_,h=>by simp at h
 | _ :: _,[],_,_,h=>by simp at h
 | x :: vs,s :: ss,v,r,h=>by
  simp only[Z4,wZ,JI v r (show vs.length=ss.length by simpa using h)]
theorem UI {g:aj} {a:List aM} (b:(aY g a).length=a.length) (h1:1<=a.length) {ss:Sets} (hs:kR (aY g a) ss) (hd:lW g (av g false) a (aY g a) ss) (d:∀ k,((aY g a).getD 0 [])[k]?=some ⟨-1,0⟩->(ec ss 0 k).getLsbD g.af.length=true)
  (e:∀ i k,i < (aY g a).length->k < ((aY g a).getD i []).length->jv g (av g false) a (aY g a) i k ss=ss) {i k:Nat} {x:aB} (c:((aY g a).getD i [])[k]?=some x):ec ss i k=tb g a i x:=by
 classical
 refine xy λt f=>?_
 rw[aan]
 unfold tb
 rw[DM _ 32 t (Zt _)]
 simp only[ZA]
 exact⟨λh=>⟨f,hd i k x t c h⟩,λh=>QH b h1 hs d e h.2 k c⟩
def zK (p:cz):List V:=[gi p.aw,gw p.set]
def gJ (l:List cz):List (List V):=l.map zK
def qk (l:List (List cz)):V:=.aD (l.map λr=>[.aD (gJ r)])
theorem F1 (l:List cz):Tree (.aD (gJ l)):=dZ _ _ λx _ v a=>by simp[zK] at a;rcases a with rfl | rfl <;> exact .val _
abbrev K1:=List (V × List cz)
def lZ (B:K1):List ct:=B.map λx=>(x.1,2,gJ x.2)
theorem Mj {h:aF} {u:V} {B:K1} (f:aV h.view u 1 (aZ B)) (g:∀ x∈B,aV h.view x.1 2 (gJ x.2)):dg h u (qk (B.map (·.2))):=by
 have c:∀ i (hi:i < B.length),(aZ B).getD i []=[(B[i]).1]/\(((B.map (·.2)).map λr=>[V.aD (gJ r)]).getD i [])=[.aD (gJ (B[i]).2)]:=λi hi=>by
  simp[aZ,Zi,hi]
 refine dg.own f (by simp[aZ]) (λi hi=>?_) (λi j hi b=>?_)
 .have a:i < B.length:=by simpa [aZ] using hi
  rw[(c i a).1,(c i a).2];rfl
 .have a:i < B.length:=by simpa [aZ] using hi
  rw[(c i a).2] at b ⊢
  rw[(c i a).1]
  have:j=0:=by simp at b;omega
  subst this
  simp only[aat]
  have d:=g _ (Zs a)
  generalize (B[i]'a).2=l at d
  refine dg.own d rfl (λi _=>rfl) (λi j hi b=>?_)
  simp only[gJ,Zr] at hi
  have e:(gJ l).getD i []=zK l[i]:=by simp[gJ,Zi,hi]
  rw[e] at b ⊢
  match j,b with
  | 0,_=>exact .val _
  | 1,_=>exact .val _
def sq:SC :=
 ae [ae [ab [aa 29 7,aa 30 4,aP 31 30,aS 32 .lss 29 31],bT 32 (.exit 0)],.block 1 (ae [ab [aT 35 4 1,aa 36 4,aa 37 7,aH 38 2 36 37,ao 39 0 38,ai 40 39,bh 41 23 [35,40],aa 8 41],ab [aa 42 6,aa 43 6,cQ 44 43,ao 45 5 44,ai 46 45,aa 47 8,((some 48),.op (.bO 1 1 [(.emp 1)] [(0,(.tmp 47))])),eE 49 1 24 46 48,cQ 50 42,ao 51 5 50,bK 1 51 49],ab [aa 52 6,aa 53 6,cQ 54 53,ao 55 6 54,ai 56 55,aa 57 8,aP 58 57,((some 59),.op (.make 1 4 [(.val (.int .u32 0))] (.tmp 58) (.tmp 58))),((some 60),.op (.bO 1 1 [(.emp 1)] [(0,(.tmp 59))])),eE 61 1 24 56 60,cQ 62 52,ao 63 6 62,bK 1 63 61]]),ab [aa 33 7,aG 34 .add 33 1,aa 7 34]]
def sH:SC :=
 ae [ae [ab [aa 84 10,aa 85 6,cQ 86 85,ao 87 5 86,ai 88 87,aa 89 9,aH 90 1 88 89,ai 91 90,aP 92 91,aS 93 .lss 84 92],bT 93 (.exit 6)],.block 7 (ab [aa 96 6,aa 97 9,aa 98 10,bh 99 78 [96,97,98]]),ab [aa 94 10,aG 95 .add 94 1,aa 10 95]]
def r6:SC :=
 ae [ae [ab [aa 78 9,aa 79 4,aP 80 79,aS 81 .lss 78 80],bT 81 (.exit 4)],.block 5 (ae [ab [aQ 10 0],bU 6 sH]),ab [aa 82 9,aG 83 .add 82 1,aa 9 83]]
def sr:SC :=
 ae [ae [ab [aa 71 6,cQ 72 71,ao 73 7 72,ai 74 73],bT 74 (.exit 2)],.block 3 (ae [ab [aa 75 6,cQ 76 75,ao 77 7 76,(none,.op (.store 1 (.tmp 77) (.val (.val (.bool false)))))],ab [aQ 9 0],bU 4 r6])]
def sx:SC :=
 ae [ae [ab [aa 106 14,aa 107 6,cQ 108 107,ao 109 5 108,ai 110 109,aa 111 12,aH 112 1 110 111,ai 113 112,aP 114 113,aS 115 .lss 106 114],bT 115 (.exit 10)],.block 11 (ae [ab [aT 119 4 1,aa 120 6,cQ 121 120,ao 122 5 121,ai 123 122,aa 124 12,aH 125 1 123 124,ai 126 125,aa 127 14,aH 128 2 126 127,aT 129 2 128,bh 130 18 [119,129],aa 118 130,dW 131 0 118,dW 132 1 118,aa 15 131,aa 16 132],.region false [⟨none,[aa 133 16,c6 134 133,aa 135 134]⟩,⟨(some (135,true)),[aa 136 6,cQ 137 136,ao 138 5 137,ai 139 138,aa 140 12,aH 141 1 139 140,ai 142 141,aa 143 14,aH 144 2 142 143,ao 145 0 144,ai 146 145,aG 147 .geq 146 0]⟩,⟨none,[eF 148 135 147]⟩],bc 148 (ab [aa 149 13,aa 150 6,cQ 151 150,ao 152 5 151,ai 153 152,aa 154 12,aH 155 1 153 154,ai 156 155,aa 157 14,aH 158 2 156 157,ao 159 0 158,ai 160 159,aa 161 6,cQ 162 161,ao 163 6 162,ai 164 163,aa 165 12,aH 166 1 164 165,ai 167 166,aa 168 14,aH 169 1 167 168,ai 170 169,((some 171),.op (.build [(.val (.int .i64 0)),(.val (.int .u32 0))] [(0,1,(.tmp 160)),(1,1,(.tmp 170))])),((some 172),.op (.bO 1 2 [(.val (.int .i64 0)),(.val (.int .u32 0))] [(0,(.tmp 171))])),eE 173 2 16 149 172,aa 13 173])]),ab [aa 116 14,aG 117 .add 116 1,aa 14 117]]
def sy:SC :=
 ae [ae [ab [aa 100 12,aa 101 4,aP 102 101,aS 103 .lss 100 102],bT 103 (.exit 8)],.block 9 (ae [ab [cq 13 1],ae [ab [aQ 14 0],bU 10 sx],ab [aa 174 11,aa 175 13,((some 176),.op (.bO 1 1 [(.emp 1)] [(0,(.tmp 175))])),eE 177 1 24 174 176,aa 11 177]]),ab [aa 104 12,aG 105 .add 104 1,aa 12 105]]
def vn:SF:=⟨ae [ab [cw 1 0,cq 2 1,aQ 3 0],ab [aT 18 4 1,bh 19 25 [18],aa 17 19,dW 20 0 17,dW 21 1 17,aa 4 20,aa 5 21],ae [ab [aa 22 5,aG 23 .neq 22 0],bc 23 (ae [ab [aa 24 5,cq 2 1,aa 3 24],.ret])],ab [aT 25 4 1,aa 26 4,((some 27),.op (.build [(.emp 1),(.emp 1),(.emp 1),(.val (.int .i64 0)),(.emp 1),(.emp 1),(.emp 1),(.val (.bool false))] [(0,4,(.tmp 25)),(4,1,(.tmp 26))])),((some 28),.op (.box (.tmp 27))),aa 6 28],ae [ab [aQ 7 0],bU 0 sq],ab [aa 64 6,((some 65),.op (.build [(.val (.int .i64 0)),(.val (.int .i64 0))] [(0,1,(.val (.val (.int .i64 (-1)))))])),ao 66 0 1,ai 67 66,aP 68 67,bh 69 77 [68],qb 70 76 [(.tmp 64),(.val (.val (.int .i64 0))),(.tmp 65),(.tmp 69)]],bU 2 sr,ab [cq 11 1],ae [ab [aQ 12 0],bU 8 sy],ab [aa 178 11,aa 2 178,aQ 3 0],.ret],
 [.tmp 2,.tmp 3],179⟩
theorem Au:aN Tryz.prog 34 [1]=some vn:=by kernel_rfl
theorem Tn {g:aj} {a:List aM} {i:Nat} {s:aM} (h:a[i]?=some s):(aY g a)[i]?=some (cK g s.bf):=by rw[aY,Zm,h];rfl
theorem Fb {g:aj} (c:g.Ok) (h:(bY g).2=0):Rp g (bY g).1 (aY g (bY g).1)/\wo g (bY g).1:=by
 have hr:isRed g=true:=aaB λd=>by
  unfold bY at h;rw[Zk d] at h;simp at h
 have b:=mL hr
 obtain⟨a,h1,f⟩:=Dc b h
 refine⟨⟨c,jX hr,by simp[aY],h1,f,λs hs=>⟨by unfold aJ;have:=a.aK s hs;omega,λe he=>?_⟩,λl hl=>?_⟩,a⟩
 .have j:=a.to s hs e he
  have k:=a.sym s hs e he
  unfold cp;omega
 .obtain⟨s,hs,rfl⟩:=ZF.1 hl
  have hk:=(a.bf s hs).2.2
  exact⟨by have:=HR b hk;omega,λx i=>((df b hk).1 i).has hk⟩
def Zg (g:aj) (a:List aM) (b:Nat) (ul us:V) (vs:List V) (m:Nat) (T:Env) (H:View):Prop:=∃ (ss:Sets) (more:Bool),m=(UN (aY g a) - A7 ss)+(if more then 1 else 0)/\cm H b g a ul us vs (aY g a) ss more []/\kR (aY g a) ss/\lW g (av g false) a (aY g a) ss /\
 (∀ k,((aY g a).getD 0 [])[k]?=some ⟨-1,0⟩->(ec ss 0 k).getLsbD g.af.length=true)/\(more=false->∀ i k,i < (aY g a).length->k < ((aY g a).getD i []).length->jv g (av g false) a (aY g a) i k ss=ss) /\
 T 1=.aI (ag g) 0/\T 4=ba a/\T 6=.ptr b 0 0
theorem WD (g:aj) (hg:g.Ok):cE Tryz.prog 34 [.agg (ag g)] (.bt [qk (mJ g).1,gi (mJ g).2]):=by
 refine cE.of (dT g) ?_
 have Y:=(E5 g hg).pure
 refine au.of mixed Au ?_
 simp only[ag,encS] at Y
 simp(disch:=omega)only[↓wr,seval,wq,vn,ag,encS]
 refine ax.pure Y ?_
 unfold mJ
 simp(disch:=omega)only[↓wr,seval,wq]
 apply ah.ne<;>intro h
 .simp(disch:=omega)only[↓wr,seval,wq]
  intro h' _
  rw[Zk h]
  exact kX (.emp _)
 rw[Zn h]
 obtain⟨hW,hA⟩:=Fb hg h
 generalize (bY g).1=a at *
 clear Y h
 have hf:=bD hW.right
 have ea:=hW.short
 have hT:=hf.af
 simp(disch:=omega)only[↓wr,seval,wq,ag,encS,SM,Xm]
 intro b
 have c0:cm (View.set (λ_=>cU.dead) b (.arr 8 [fh g a (.emp 1) (.emp 1) false])) b g a (.emp 1) (.emp 1) [] ((aY g a).take 0) (gQ ((aY g a).take 0)) false [] :=
  ⟨rfl,(((aX.nil.new (n:=b) (H:=λ_=>cU.dead) rfl 8 [fh g a (.emp 1) (.emp 1) false]).emp (k:=1) (sz:=1)).emp (k:=1) (sz:=1)).perm AP.symm⟩
 simp only[fh] at c0
 generalize (View.set (λ_=>cU.dead) b (.arr 8 [[V.aD (g.af.map bS),.aD (g.ak.map λs=>[gs s]),.aD (g.rules.map aO),gi g.start,ba a,.emp 1,.emp 1,gb false]]))=H0 at c0 ⊢
 refine aR.up a.length (λi T H'=>∃ (ul us:V) (vs:List V),cm H' b g a ul us vs ((aY g a).take i) (gQ ((aY g a).take i)) false []/\T 1=.aI (ag g) 0/\T 4=ba a/\T 6=.ptr b 0 0/\T 7=gi i) ⟨_,_,_,c0,rfl,rfl,rfl,rfl⟩ ?_
 clear c0
 rintro i k T H hk ⟨ul,us,vs,w,t1,t4,t6,t7⟩
 simp(disch:=omega)only[↓wr,seval,wq,sq,t1,t4,t6,t7,ba]
 apply ah.dec<;>intro C
 .have hs:a[i]?=some (a[i]'(by omega)):=Zj (by omega)
  have br:=Tn (g:=g) hs
  obtain⟨k1,k2,Z⟩:=hA.bf _ (Zs (show i < a.length by omega))
  generalize a[i]'(by omega)=s at hs br k1 k2 Z
  have p:=gC hf k1 Z
  have hC:=(JB g hg s.bf (by omega) (λx K=>zQ hf (Z x K))).pure
  rw[List.filter_eq_self.2 λx K=>pI.2 ⟨hW.right,Z x K⟩] at hC
  have eb:=HR hf Z
  have cg:cK g s.bf≠[]:=λe=>by
   cases hk:s.bf with
   | nil=>exact k2 hk
   | cons x r =>
    have:=(df hf Z).2 (.base (show x∈s.bf by rw[hk];simp))
    rw[e] at this;simp at this
  generalize cK g s.bf=cl at *
  have D:(aY g a).take (i+1)=(aY g a).take i ++ [cl]:=by rw[ZG,br];rfl
  have Q:((aY g a).take i).length<=300:=by rw[Z6];have:=hW.len;omega
  simp only[ag,encS] at hC
  simp(disch:=omega)only[↓wr,seval,wq,t1,t4,t6,t7,ag,encS,ba,Zm,hs,Zq,dy]
  refine ax.pure hC ?_
  have hb:=w.box
  simp(disch:=omega)only[↓wr,seval,wq,t1,t4,t6,t7,hb,fh]
  intro q hq
  simp(disch:=omega)only[↓wr,seval,wq,bm]
  have o1:=(w.own.fresh (o:=.arr 1 [[.aD (aU cl)]]) hq).at 1 (by simp)
  refine bL o1 (by simp[aL]) (by unfold aA;simp only[ZR,ZO,kW];simp;omega) (by unfold aA;simp only[ZR,ZO,kW];simp;omega) ?_
  intro aq H2 o2 _
  simp only[ZR,ZO,ZU,ZV] at o2
  have bs:=o2.is 1 rfl (by simp)
  have o3:=(o2.perm (.swap _ _ _)).put (es':=[fh g a aq us false]) rfl rfl
  have cu:=o2.head.cells
  have ku:=o2.head.fj
  simp only[fh] at o3 bs
  clear o1 o2 hq hb
  simp(disch:=omega)only[↓wr,seval,wq,t1,t4,t6,t7,bs,cu,ku,bJ]
  have bx:cl.length≠0:=λe=>cg (aaJ.1 e)
  refine⟨⟨Zt _,by unfold aA;omega,by unfold aA;omega⟩,λhz=>absurd hz bx,λ_ nm ch=>?_⟩
  have o4:=o3.new (n:=nm) (by simpa [View.set] using ch) 1 (List.replicate cl.length [.val (.int .u32 0)])
  rw[aaq] at o4
  intro q2 cj
  simp(disch:=omega)only[↓wr,seval,wq,bm,t1,t4,t6,t7]
  have o5:=(o4.fresh (n:=q2) (o:=.arr 1 [[.sl nm 0 cl.length 1]]) (by simpa [View.set] using cj)).at 3 (by simp)
  refine bL o5 (by simp[aL]) (by unfold aA;simp only[ZR,ZO,Zr];simp;have:=w.len;simp[gQ] at this;omega) (by unfold aA;simp only[ZR,ZO,Zr];simp;have:=w.len;simp[gQ] at this;omega) ?_
  intro b0 H5 o6 _
  simp only[ZR,ZO,ZU,ZV] at o6
  have ck:=o6.is 2 rfl (by simp)
  have cr:=o6.head.cells
  have cv:=o6.head.fj
  simp(disch:=omega)only[↓wr,seval,wq,t1,t4,t6,t7,ck,cr,cv]
  have o7:=(o6.at 2 (by simp)).put (es':=[fh g a aq b0 false]) rfl rfl
  simp only[ZR,ZO,ZU,ZV] at o7
  refine aE hk (by omega) ⟨aq,b0,vs ++ [.sl nm 0 cl.length 1],⟨?_,?_⟩,t1,t4,t6,rfl⟩
  .have:=w.len
   rw[D];simp[gQ] at this ⊢;exact this
  .have e1:Ao ((aY g a).take i ++ [cl])=Ao ((aY g a).take i) ++ [[.aD (aU cl)]]:=by simp[Ao]
   have e2:gQ ((aY g a).take i ++ [cl])=gQ ((aY g a).take i) ++ [List.replicate cl.length 0]:=by simp[gQ]
   have e3:(List.replicate cl.length [V.val (.int .u32 0)])=bV (List.replicate cl.length (0:BV)):=by simp
   rw[D,e1,e2,JI _ _ w.len,ZD,aav]
   rw[e3,aav] at o7
   exact o7.perm (.cons _ ((ZY (l₁:=[_,_])).trans (.cons _ (.cons _ (aaQ _ _).symm))))
 rw[Zx (by have:=hW.len;omega)] at w
 have ee:=λm=>hW.item m
 simp(disch:=omega)only[↓wr,seval,wq,t1,t4,t6,ag]
 refine ax.pure (Df (g.af.length:Int)) ?_
 simp(disch:=omega)only[↓wr,seval,wq,t1,t4,t6]
 have M:=Re (aY g a)
 have R:0 < (aY g a).length:=by have:=hW.len;have:=hW.Of;omega
 refine ax.dJ ((FU g a ul us vs (aY g a) (gQ (aY g a)) false [] b H w M (λl hl=>(hW.item l hl).1) 0 R ⟨-1,0⟩ (dQ g.af.length)).mono ?_)
 intro _ H1 E
 have an:∀ t,(dQ (g.af.length:Int)).getLsbD t=true↔t=g.af.length:=λt=>by
  rw[dQ,Zn (by omega),aaN]
  simp only[ZK,Zw,ZA]
  omega
 have b1:=jf M R ⟨-1,0⟩ (dQ g.af.length)
 have b2:lW g (av g false) a (aY g a) (fO (aY g a) (gQ (aY g a)) 0 ⟨-1,0⟩ (dQ g.af.length)):=by
  refine wX M (λi k x t _ h=>by rw[Im] at h;simp at h) R λt ht hm=>?_
  rw[(an t).1 ht]
  exact .start hm
 have b3:∀ k,((aY g a).getD 0 [])[k]?=some ⟨-1,0⟩->(ec (fO (aY g a) (gQ (aY g a)) 0 ⟨-1,0⟩ (dQ g.af.length)) 0 k).getLsbD g.af.length=true:=λk hk=>by
  rw[vE M R,Zn ⟨rfl,hk⟩,Z5,(an _).2 rfl,Bool.or_true]
 have b4:(false || decide (fO (aY g a) (gQ (aY g a)) 0 ⟨-1,0⟩ (dQ g.af.length)≠gQ (aY g a)))=false->∀ i k,i < (aY g a).length->k < ((aY g a).getD i []).length->jv g (av g false) a (aY g a) i k (fO (aY g a) (gQ (aY g a)) 0 ⟨-1,0⟩ (dQ g.af.length))=fO (aY g a) (gQ (aY g a)) 0 ⟨-1,0⟩ (dQ g.af.length):=λh i k _ _=>by
  simp only[abu,aaI,Classical.not_not] at h
  rw[h,jv,Zn (.inr (Im _ _ _))]
 generalize fO (aY g a) (gQ (aY g a)) 0 ⟨-1,0⟩ (dQ g.af.length)=b5 at *
 generalize (false || decide (b5≠gQ (aY g a)))=ar at *
 simp(disch:=omega)only[↓wr,seval,wq,t1,t4,t6]
 refine aR.intro (Zg g a b ul us vs) _ ⟨b5,ar,rfl,E,b1,b2,b3,b4,t1,t4,t6⟩ ?_
 clear w E b1 b2 b3 b4 t1 t4 t6 t7 M C hk
 rintro m T2 H2 ⟨c,cA,rfl,w,u,hd,h0,b7,t1,t4,t6⟩
 have hb:=w.box
 have a1:=hW.len
 have a6:=hW.Of
 obtain⟨nl,rfl,_⟩:=w.lists (by omega)
 simp(disch:=omega)only[↓wr,seval,wq,sr,t1,t4,t6,hb,fh]
 apply ah.split<;>intro hm
 .have E:=w.flag false
  simp only[fh] at E
  simp(disch:=omega)only[↓wr,seval,wq,t1,t4,t6,hb,fh]
  refine aR.up a.length (λi T H'=>∃ ss:Sets,cm H' b g a (.sl nl 0 (aY g a).length 1) us vs (aY g a) ss (decide (ss≠c)) []/\kR (aY g a) ss/\lW g (av g false) a (aY g a) ss/\kP c ss /\
   (ss=c->∀ L k,L < i->k < ((aY g a).getD L []).length->jv g (av g false) a (aY g a) L k c=c)/\T 1=.aI (ag g) 0/\T 4=ba a/\T 6=.ptr b 0 0/\T 9=gi i)
   ⟨c,by rw[decide_eq_false (by simp)];exact E,u,hd,.refl,λ_ L k h=>by omega,t1,t4,t6,rfl⟩ ?_
  clear E t1 t4 t6 hb
  rintro i k2 T3 H3 a7 ⟨ss,y,S,a8,z,bb,t1,t4,t6,t9⟩
  simp(disch:=omega)only[↓wr,seval,wq,r6,t1,t4,t6,t9,ba]
  apply ah.dec<;>intro C
  .have f:i < (aY g a).length:=by omega
   have cC:=(hW.item _ (Zp (getD_some (d:=[]) f))).1
   simp(disch:=omega)only[↓wr,seval,wq,t1,t4,t6,t9]
   refine aR.up ((aY g a).getD i []).length (λk T H'=>∃ ss:Sets,cm H' b g a (.sl nl 0 (aY g a).length 1) us vs (aY g a) ss (decide (ss≠c)) []/\kR (aY g a) ss/\lW g (av g false) a (aY g a) ss/\kP c ss /\
    (ss=c->(∀ L k,L < i->k < ((aY g a).getD L []).length->jv g (av g false) a (aY g a) L k c=c)/\∀ O,O < k->jv g (av g false) a (aY g a) i O c=c)/\T 1=.aI (ag g) 0/\T 4=ba a/\T 6=.ptr b 0 0/\T 9=gi i/\T 10=gi k)
    ⟨ss,y,S,a8,z,λe=>⟨bb e,λO h=>by omega⟩,t1,t4,t6,t9,rfl⟩ ?_
   clear y S a8 z bb t1 t4 t6 t9
   rintro k Z T4 H4 N ⟨ss,j,U,b8,A,W,t1,t4,t6,t9,t10⟩
   have F:=j.box
   have G:=(j.F7 (by omega)).1
   have I:=ED f
   simp(disch:=omega)only[↓wr,seval,wq,sH,t1,t4,t6,t9,t10,F,fh,G,I,kW,bJ]
   refine⟨f,f,?_⟩
   apply ah.dec<;>intro bd
   .have p:k < ((aY g a).getD i []).length:=by omega
    simp(disch:=omega)only[↓wr,seval,wq,t1,t4,t6,t9,t10]
    refine ax.dJ ((V9 g a _ us vs (aY g a) ss _ [] b H4 hW j U i k f p).mono ?_)
    intro _ H5 J
    obtain⟨p1,p2⟩:=KV (g:=g) (null:=av g false) a1 a6 f k U
    have p3:=LR a1 a6 f p U b8
    rw[I4 A p2] at J
    simp(disch:=omega)only[↓wr,seval,wq,t1,t4,t6,t9,t10]
    refine aE N p ⟨_,J,p1,p3,A.trans p2,λe=>?_,t1,t4,t6,t9,rfl⟩
    have e1:ss=c:=kP.uU (Eq.mp (aau (kP ss) e) p2) A
    subst e1
    refine⟨(W rfl).1,λO b9=>?_⟩
    rcases ZI O k with Q | cN
    .exact(W rfl).2 O Q
    .have:O=k:=by omega
     subst this
     exact e
   .simp(disch:=omega)only[↓wr,seval,wq,t1,t4,t6,t9]
    refine aE a7 (by omega) ⟨ss,j,U,b8,A,λe L O eg b9=>?_,t1,t4,t6,rfl⟩
    rcases ZI L i with Q | cN
    .exact(W e).1 L O Q b9
    .have:L=i:=by omega
     subst this
     exact(W e).2 O (by omega)
  .simp(disch:=omega)only[↓wr,seval,wq,t1,t4,t6]
   have q1:=Ny z
   have q2:=Lb S
   refine⟨_,?_,ss,decide (ss≠c),rfl,y,S,a8,λk hk=>z.2.2 0 k _ (h0 k hk),λe=>?_,t1,t4,t6⟩
   .rw[hm]
    by_cases e:ss=c
    .subst e;simp
    .have:=q1.2 (λh=>e h.symm)
     simp[e];omega
   .have e2:ss=c:=by simpa using e
    have h3:=bb e2
    rw[e2]
    exact λi k hi hk=>h3 i k (by omega) hk
 .have X:=b7 hm
  subst hm
  have ca:=λi k x=>UI (i:=i) (k:=k) (x:=x) a1 a6 u hd h0 X
  obtain⟨nu,rfl,_⟩:=w.OO (by rw[u.1];omega)
  simp(disch:=omega)only[↓wr,seval,wq,t1,t4,t6]
  refine aR.up a.length (λi T H'=>∃ (uo:V) (B:K1),B.map (·.2)=(iu g a).take i/\cm H' b g a (.sl nl 0 (aY g a).length 1) (.sl nu 0 c.length 1) vs (aY g a) c false ((uo,1,aZ B) :: lZ B)/\T 1=.aI (ag g) 0/\T 4=ba a/\T 6=.ptr b 0 0/\T 11=uo/\T 12=gi i)
   ⟨.emp 1,[],by simp,w.emp 1 1,t1,t4,t6,rfl,rfl⟩ ?_
  clear w t1 t4 t6 hb
  rintro i k2 T3 H3 a7 ⟨uo,B,Y,y,t1,t4,t6,t11,t12⟩
  simp(disch:=omega)only[↓wr,seval,wq,sy,t1,t4,t6,t11,t12,ba]
  apply ah.dec<;>intro C
  .have f:i < (aY g a).length:=by omega
   have cC:=(hW.item _ (Zp (getD_some (d:=[]) f))).1
   simp(disch:=omega)only[↓wr,seval,wq,t1,t4,t6,t11,t12]
   refine aR.up ((aY g a).getD i []).length (λk T H'=>∃ P:V,cm H' b g a (.sl nl 0 (aY g a).length 1) (.sl nu 0 c.length 1) vs (aY g a) c false ((P,2,gJ ((((aY g a).getD i []).take k).filterMap λx=>if (bA g x).2=false/\0<=x.aw then some ⟨x.aw,tb g a i x⟩ else none)) :: (uo,1,aZ B) :: lZ B) /\
    T 1=.aI (ag g) 0/\T 4=ba a/\T 6=.ptr b 0 0/\T 11=uo/\T 12=gi i/\T 13=P/\T 14=gi k)
    ⟨.emp 1,y.emp 1 2,t1,t4,t6,t11,t12,rfl,rfl⟩ ?_
   clear y t1 t4 t6 t11 t12
   rintro k Z T4 H4 N ⟨P,j,t1,t4,t6,t11,t12,t13,t14⟩
   have F:=j.box
   have G:=(j.F7 (by omega)).1
   have I:=ED f
   simp(disch:=omega)only[↓wr,seval,wq,sx,t1,t4,t6,t11,t12,t13,t14,F,fh,G,I,kW,bJ]
   refine⟨f,f,?_⟩
   apply ah.dec<;>intro bd
   .have p:k < ((aY g a).getD i []).length:=by omega
    have K:((aY g a).getD i [])[k]?=some (((aY g a).getD i [])[k]'p):=Zj p
    have bl:=(hW.item _ (Zp (getD_some (d:=[]) f))).2 _ (Zs p)
    have D:((aY g a).getD i []).take (k+1)=((aY g a).getD i []).take k ++ [((aY g a).getD i [])[k]'p]:=by rw[ZG,K];rfl
    generalize ((aY g a).getD i [])[k]'p=x at K bl D
    have hN:=Ia g hW.VC x (zQ hf bl)
    rw[Fi,Zn (pI.2 ⟨hW.right,bl⟩)] at hN
    have cS:=ca i k x K
    have bn:vs[i]?=some (vs[i]'(by rw[j.len,u.1];exact f)):=Zj _
    generalize vs[i]'(by rw[j.len,u.1];exact f)=v at bn
    have ei:=u.2 i
    have cV:i < vs.length:=by rw[j.len,u.1];exact f
    have c3:i < c.length:=by rw[u.1];exact f
    obtain⟨nv,rfl,c5⟩:=(j.row bn).sl (by rw[mH];omega)
    have hw:(c.getD i [])[k]?=some (ec c i k):=getD_some (by omega)
    have c9:=(j.SA (by omega)).1
    have da:=List.length_filterMap_le (λx:aB=>if (bA g x).2=false/\0<=x.aw then some (⟨x.aw,tb g a i x⟩:cz) else none) (((aY g a).getD i []).take k)
    rw[Z6] at da
    rw[cS] at hw
    simp only[ag,encS,bE] at hN
    simp(disch:=omega)only[↓wr,seval,wq,t1,t4,t6,t11,t12,t13,t14,F,fh,G,I,kW,aU,Zm,K,Zq,bE,ag,encS]
    refine⟨f,f,?_⟩
    refine ax.pure hN ?_
    have skip:¬ ((bA g x).2=false/\0<=x.aw)->(((aY g a).getD i []).take (k+1)).filterMap (λx=>if (bA g x).2=false/\0<=x.aw then some (⟨x.aw,tb g a i x⟩:cz) else none)=(((aY g a).getD i []).take k).filterMap (λx=>if (bA g x).2=false/\0<=x.aw then some (⟨x.aw,tb g a i x⟩:cz) else none):=λdb=>by
     rw[D,List.filterMap_append]
     simp[db]
    have take:((bA g x).2=false/\0<=x.aw)->(((aY g a).getD i []).take (k+1)).filterMap (λx=>if (bA g x).2=false/\0<=x.aw then some (⟨x.aw,tb g a i x⟩:cz) else none)=(((aY g a).getD i []).take k).filterMap (λx=>if (bA g x).2=false/\0<=x.aw then some (⟨x.aw,tb g a i x⟩:cz) else none) ++ [⟨x.aw,tb g a i x⟩]:=λcc=>by
     rw[D,List.filterMap_append]
     simp[cc]
    simp(disch:=omega)only[↓wr,seval,wq,t1,t4,t6,t11,t12,t13,t14]
    apply ah.split<;>intro bq
    .simp(disch:=omega)only[↓wr,seval,wq,t1,t4,t6,t11,t12,t13,t14]
     exact aE N p ⟨P,by rw[skip (by simp[bq])];exact j,t1,t4,t6,t11,t12,t13,rfl⟩
    .simp(disch:=omega)only[↓wr,seval,wq,t1,t4,t6,t11,t12,t13,t14,F,fh,G,I,kW,aU,Zm,K,Zq,bE]
     refine⟨f,f,?_⟩
     apply ah.dec<;>intro h0
     .simp(disch:=omega)only[↓wr,seval,wq,t1,t4,t6,t11,t12,t13,t14,F,fh,G,I,kW,aU,Zm,K,Zq,bE,c9,Ej bn,c5,xH hw,mH]
      refine⟨f,f,c3,cV,by omega,by omega,?_⟩
      intro q hq
      simp(disch:=omega)only[↓wr,seval,wq,bm]
      refine cm.goApp (j.fresh hq) (by simp[aL]) (by unfold aA;rw[gJ,Zr];simp only[ZB,ZW];omega) (by unfold aA;rw[gJ,Zr];simp only[ZB,ZW];omega) ?_
      intro u2 H5 J
      simp(disch:=omega)only[↓wr,seval,wq,t1,t4,t6,t11,t12,t13,t14]
      exact aE N p ⟨u2,by rw[take ⟨bq,h0⟩,gJ,ZD];exact J,t1,t4,t6,t11,t12,rfl,rfl⟩
     .simp(disch:=omega)only[↓wr,seval,wq,t1,t4,t6,t11,t12,t13,t14]
      exact aE N p ⟨P,by rw[skip (by omega)];exact j,t1,t4,t6,t11,t12,t13,rfl⟩
   .simp(disch:=omega)only[↓wr,seval,wq,t1,t4,t6,t11,t12,t13,t14]
    have dj:=aau List.length Y
    simp only[Zr,Z6] at dj
    have dm:=j.Vm.cells
    have cf:=j.Vm.fj
    rw[Zx (by omega)] at j
    have ds:(iu g a)[i]?=some (gP g a i):=by rw[iu,Zm,abl (by omega)];rfl
    simp(disch:=omega)only[↓wr,seval,wq,t1,t4,t6,t11,t12,t13,t14,dm,cf]
    intro q hq
    simp(disch:=omega)only[↓wr,seval,wq,bm,t1,t4,t6,t11,t12,t13,t14]
    refine cm.goApp ((j.Vp (.swap _ _ _)).fresh hq) (by simp[cf]) (by unfold aA;simp[aZ];omega) (by unfold aA;simp[aZ];omega) ?_
    intro dv H5 J
    simp(disch:=omega)only[↓wr,seval,wq,t1,t4,t6,t11,t12]
    refine aE a7 (by omega) ⟨dv,B ++ [(P,gP g a i)],?_,?_,t1,t4,t6,rfl,rfl⟩
    .rw[ZD,Y,ZG,ds];rfl
    .have e1:aZ (B ++ [(P,gP g a i)])=aZ B ++ [[P]]:=by simp[aZ]
     have e2:lZ (B ++ [(P,gP g a i)])=lZ B ++ [(P,2,gJ (gP g a i))]:=by simp[lZ]
     rw[e1,e2]
     exact J.Vp (.cons _ (aaQ _ _).symm)
  .simp(disch:=omega)only[↓wr,seval,wq,t11]
   rw[Zx (by simp[iu];omega)] at Y
   rintro h' rfl
   rw[<-Y]
   have ho:=(y.own.perm oL)
   refine kX (Mj ho.head λx K=>ho.1 (x.1,2,gJ x.2) (ZE _ (ZE _ (ZE _ (ZE _ (aaX _ (ZF.2 ⟨x,K,rfl⟩)))))))
def oE:SC :=
 ae [ae [ab [aa 7 6,aa 8 0,aP 9 8,aS 10 .lss 7 9],bT 10 (.exit 0)],.block 1 (ae [ab [aa 13 0,aa 14 6,aH 15 2 13 14,ao 16 1 15,ai 17 16,aa 18 1,bh 19 80 [17,18]],bc 19 (ab [aa 20 5,aa 21 0,aa 22 6,aH 23 2 21 22,ao 24 0 23,ai 25 24,((some 26),.op (.bO 1 1 [(.val (.int .i64 0))] [(0,(.tmp 25))])),eE 27 1 8 20 26,aa 5 27])]),ab [aa 11 6,aG 12 .add 11 1,aa 6 12]]
def qD:SF:=⟨ae [ab [cq 4 1],ab [cq 5 1],ae [ab [aQ 6 0],bU 0 oE],ab [aa 28 5,aa 4 28],.ret],
 [.tmp 4],29⟩
theorem xl:aN Tryz.prog 39 []=some qD:=by kernel_rfl
def qz:SF:=⟨ae [ab [cw 3 0,aQ 6 0],ae [.region false [⟨none,[aT 11 4 3,bh 12 54 [11],c6 13 12,aa 14 13]⟩,⟨(some (14,false)),[aa 15 1,aG 16 .lss 15 0]⟩,⟨none,[cD 17 14 16,aa 18 17]⟩,⟨(some (18,false)),[aa 19 1,ao 20 2 3,ai 21 20,aP 22 21,aS 23 .geq 19 22]⟩,⟨none,[cD 24 18 23,aa 25 24]⟩,⟨(some (25,false)),[aa 26 2,aG 27 .lss 26 0]⟩,⟨none,[cD 28 25 27,aa 29 28]⟩,⟨(some (29,false)),[aa 30 2,ao 31 0 3,ai 32 31,aP 33 32,aS 34 .gtr 30 33]⟩,⟨none,[cD 35 29 34]⟩],bc 35 (ae [ab [aQ 6 0],.ret])],ab [ao 36 2 3,ai 37 36,aa 38 1,aH 39 3 37 38,ao 40 2 39,ai 41 40,aa 7 41],ae [.region false [⟨none,[aa 42 2,ao 43 0 3,ai 44 43,aP 45 44,aS 46 .eql 42 45,aa 47 46]⟩,⟨(some (47,false)),[aa 48 7,aG 49 .lss 48 0]⟩,⟨none,[cD 50 47 49,aa 51 50]⟩,⟨(some (51,false)),[ao 52 0 3,ai 53 52,aa 54 7,aH 55 3 53 54,ao 56 1 55,ai 57 56,aG 58 .eql 57 0]⟩,⟨none,[cD 59 51 58,aa 60 59]⟩,⟨(some (60,false)),[ao 61 0 3,ai 62 61,aa 63 2,aH 64 3 62 63,ao 65 1 64,ai 66 65,aG 67 .eql 66 0]⟩,⟨none,[cD 68 60 67]⟩],bc 68 (ae [ab [aQ 6 4],.ret])],ab [ao 69 0 3,ai 70 69,aa 71 7,aH 72 3 70 71,ao 73 1 72,ai 74 73,ao 75 0 3,ai 76 75,aa 77 2,aH 78 3 76 77,ao 79 1 78,ai 80 79,aa 8 74,aa 9 80],ab [ao 81 0 3,ai 82 81,aa 83 2,aH 84 3 82 83,ao 85 2 84,ai 86 85,aa 10 86],.block 0 (ae [.region false [⟨none,[aa 88 8,aa 89 9,aS 90 .gtr 88 89,aa 91 90]⟩,⟨(some (91,false)),[aa 92 8,aa 93 9,aS 94 .eql 92 93,aa 95 94]⟩,⟨(some (95,true)),[aa 96 10,aG 97 .eql 96 1]⟩,⟨(some (91,false)),[eF 98 95 97]⟩,⟨none,[cD 99 91 98,aa 87 99]⟩],.cond (.tmp 87) (ae [ab [aQ 6 1],.ret]) (ae [.region false [⟨none,[aa 101 8,aa 102 9,aS 103 .lss 101 102,aa 104 103]⟩,⟨(some (104,false)),[aa 105 10,aG 106 .eql 105 2]⟩,⟨none,[cD 107 104 106,aa 100 107]⟩],bc 100 (ae [ab [aQ 6 2],.ret])])]),ab [aQ 6 3],.ret],
 [.tmp 6],108⟩
theorem vA:aN Tryz.prog 131 [3]=some qz:=by kernel_rfl
def pq:SC :=
 ae [ae [ab [aa 9 7,ao 10 1 4,ai 11 10,aP 12 11,aS 13 .lss 9 12],bT 13 (.exit 0)],.block 1 (ae [ab [ao 16 1 4,ai 17 16,aa 18 7,aH 19 2 17 18,ao 20 0 19,ai 21 20,aa 22 2,aS 23 .eql 21 22],bc 23 (ae [ab [ao 24 1 4,ai 25 24,aa 26 7,aH 27 2 25 26,ao 28 1 27,ai 29 28,((some 30),.op (.build [(.val (.int .i64 0)),(.val (.int .i64 0))] [(0,1,(.val (.val (.int .i64 1)))),(1,1,(.tmp 29))])),bK 2 6 30],.ret])]),ab [aa 14 7,aG 15 .add 14 1,aa 7 15]]
def pf:SC :=
 ae [ae [ab [aa 31 8,ao 32 0 4,ai 33 32,aP 34 33,aS 35 .lss 31 34],bT 35 (.exit 2)],.block 3 (ae [.region false [⟨none,[aa 38 2,ao 39 0 3,ai 40 39,aP 41 40,aS 42 .eql 38 41,aa 43 42]⟩,⟨(some (43,true)),[ao 44 0 4,ai 45 44,aa 46 8,aH 47 2 45 46,aT 48 2 47,((some 49),.op (.build [(.val (.int .i64 0)),(.val (.int .i64 0))] [(0,1,(.val (.val (.int .i64 (-1))))),(1,1,(.val (.val (.int .i64 1))))])),((some 50),.op (.old (.binOp .eql 33 (.tmp 48) (.tmp 49) 33) 4))]⟩,⟨none,[eF 51 43 50]⟩],bc 51 (ae [ab [((some 52),.op (.build [(.val (.int .i64 0)),(.val (.int .i64 0))] [(0,1,(.val (.val (.int .i64 3))))])),bK 2 6 52],.ret])]),ab [aa 36 8,aG 37 .add 36 1,aa 8 37]]
def qI:SF:=⟨ae [ab [cw 3 0,cw 4 1,((some 6),.op (.alloc [(.val (.int .i64 0)),(.val (.int .i64 0))]))],ae [ab [aQ 7 0],bU 0 pq],ae [ab [aQ 8 0],bU 2 pf],ab [((some 53),.op (.build [(.val (.int .i64 0)),(.val (.int .i64 0))] [])),bK 2 6 53],.ret],
 [.cell 6 (some 2)],54⟩
theorem xh:aN Tryz.prog 130 [3,4]=some qI:=by kernel_rfl
theorem OZ (l:List cz) (hl:l.length<=10000) (n:Int):cE Tryz.prog 39 [.aD (gJ l),gi n] (encI (eZ l n)):=by
 refine cE.of (by
  intro v d;simp at d
  rcases d with rfl | rfl
  .exact F1 _
  .exact .val _) ?_
 refine au.of mixed xl ?_
 simp(disch:=omega)only[↓wr,seval,wq,qD,gJ]
 refine aR.up l.length (λi T H'=>∃ u:V,aV H' u 1 (bF (eZ (l.take i) n))/\T 0=.aD (gJ l)/\T 1=gi n/\T 5=u/\T 6=gi i) ⟨.emp 1,.nil,rfl,rfl,rfl,rfl⟩ ?_
 rintro i k T H hk ⟨u,b,t0,t1,t5,t6⟩
 simp(disch:=omega)only[↓wr,seval,wq,oE,t0,t1,t5,t6,gJ]
 apply ah.dec<;>intro e
 .have c:l[i]?=some (l[i]'(by omega)):=Zj (by omega)
  generalize l[i]'(by omega)=x at c
  have a:eZ (l.take (i+1)) n=if hasB x.set n=true then eZ (l.take i) n ++ [x.aw] else eZ (l.take i) n:=by
   unfold eZ
   rw[wA c]
   split <;> simp
  have f:(eZ (l.take i) n).length<=i:=by
   unfold eZ
   have:=aac (λx:cz=>hasB x.set n) (l.take i)
   simp only[Zr,Z6] at this ⊢
   omega
  simp(disch:=omega)only[↓wr,seval,wq,t0,t1,t5,t6,gJ,Zm,c,Zq,zK]
  refine ax.pure (T9 x.set n) ?_
  simp(disch:=omega)only[↓wr,seval,wq,t0,t1,t5,t6]
  apply ah.split<;>intro he
  .simp(disch:=omega)only[↓wr,seval,wq,t0,t1,t5,t6,gJ,Zm,c,Zq,zK]
   intro q hq
   simp(disch:=omega)only[↓wr,seval,wq,bm]
   refine gh (b.fresh hq) (by simp[aL]) (by unfold aA;simp;omega) (by unfold aA;simp;omega) ?_
   intro g j h _
   simp(disch:=omega)only[↓wr,seval,wq,t0,t1,t5,t6]
   rw[Zn he] at a
   exact aE hk (by omega) ⟨g,by rw[a];simpa using h,t0,t1,rfl,rfl⟩
  .simp(disch:=omega)only[↓wr,seval,wq,t0,t1,t5,t6]
   rw[Zk (by rw[he];simp)] at a
   exact aE hk (by omega) ⟨u,by rw[a];exact b,t0,t1,t5,rfl⟩
 .rw[Zx (by omega)] at b
  simp(disch:=omega)only[↓wr,seval,wq,t5]
  rintro m rfl
  exact kM b
theorem vH {g:aj} {t:Int} {x:Term} (h:g.af[t.toNat]?=some x):ey g t=x.level/\sC g t=x.assoc:=by
 simp[ey,sC,h]
theorem LD (g:aj) (o:g.Ok) (aw term:Int):az Tryz.prog 131 [.agg (ag g),gi aw,gi term] (gi (fg g aw term)):=by
 refine az.val (by
  intro v i;simp at i
  rcases i with rfl | rfl | rfl
  .exact cb _ (cY g)
  .exact .val _
  .exact .val _) λH=>?_
 have c:=kH g o
 refine au.of mixed vA ?_
 simp only[ag,encS] at c
 simp(disch:=omega)only[↓wr,seval,wq,qz,ag,encS]
 refine ax.pure c ?_
 have bad:bI g=false∨aw < 0∨(g.rules.length:Int)<=aw∨term < 0∨(g.af.length:Int) < term->fg g aw term=0:=λh=>by rw[fg,Zn h]
 cases hr:bI g with
 | false =>
  simp(disch:=omega)only[↓wr,seval,wq]
  rw[bad (.inl hr)]
 | true =>
  have r:=bD hr
  simp(disch:=omega)only[↓wr,seval,wq]
  apply ah.dec<;>intro h1
  .simp(disch:=omega)only[↓wr,seval,wq]
   rw[bad (.inr (by omega))]
  simp(disch:=omega)only[↓wr,seval,wq,ag]
  apply ah.dec<;>intro s
  .simp(disch:=omega)only[↓wr,seval,wq]
   rw[bad (.inr (by omega))]
  simp(disch:=omega)only[↓wr,seval,wq]
  apply ah.dec<;>intro t
  .simp(disch:=omega)only[↓wr,seval,wq]
   rw[bad (.inr (by omega))]
  simp(disch:=omega)only[↓wr,seval,wq,ag]
  apply ah.dec<;>intro u
  .simp(disch:=omega)only[↓wr,seval,wq]
   rw[bad (.inr (by omega))]
  have d:g.rules[aw.toNat]?=some (ay g aw):=by unfold ay;exact getD_some (by omega)
  have w:=r.prec _ (Zp d)
  have j:fg g aw term=if term=g.af.length∨(ay g aw).prec < 0∨ey g (ay g aw).prec=0∨ey g term=0 then 4
    else if ey g term < ey g (ay g aw).prec∨ey g (ay g aw).prec=ey g term/\sC g term=1 then 1
    else if ey g (ay g aw).prec < ey g term∨sC g term=2 then 2 else 3:=by
   rw[fg,Zk (by rw[hr];simp;omega)]
  rw[j]
  clear j bad
  generalize ay g aw=R at d w
  simp(disch:=omega)only[↓wr,seval,wq,ag,Zm,d,Zq,aO]
  apply ah.eq<;>intro k
  .simp(disch:=omega)only[↓wr,seval,wq]
   rw[Zn (.inl k)]
  simp(disch:=omega)only[↓wr,seval,wq]
  apply ah.dec<;>intro l
  .simp(disch:=omega)only[↓wr,seval,wq]
   rw[Zn (.inr (.inl l))]
  have hp:g.af[R.prec.toNat]?=some (g.af[R.prec.toNat]'(by omega)):=Zj (by omega)
  have hq:g.af[term.toNat]?=some (g.af[term.toNat]'(by omega)):=Zj (by omega)
  generalize g.af[R.prec.toNat]'(by omega)=p at hp
  generalize g.af[term.toNat]'(by omega)=q at hq
  obtain⟨x,_⟩:=vH hp
  obtain⟨y,z⟩:=vH hq
  rw[x,y,z]
  simp(disch:=omega)only[↓wr,seval,wq,ag,Zm,hp,hq,Zq,bS]
  apply ah.eq<;>intro m
  .simp(disch:=omega)only[↓wr,seval,wq]
   rw[Zn (.inr (.inr (.inl m)))]
  simp(disch:=omega)only[↓wr,seval,wq,ag,Zm,hp,hq,Zq,bS]
  apply ah.eq<;>intro n
  .simp(disch:=omega)only[↓wr,seval,wq]
   rw[Zn (.inr (.inr (.inr n)))]
  rw[Zk (by omega)]
  simp(disch:=omega)only[↓wr,seval,wq,ag,Zm,hp,hq,Zq,bS]
  apply ah.dec<;>intro A
  .simp(disch:=omega)only[↓wr,seval,wq]
   rw[Zn (by omega)]
  simp(disch:=omega)only[↓wr,seval,wq]
  apply ah.eq<;>intro e
  .simp(disch:=omega)only[↓wr,seval,wq]
   apply ah.eq<;>intro f
   .simp(disch:=omega)only[↓wr,seval,wq]
    rw[Zn (by omega)]
   .simp(disch:=omega)only[↓wr,seval,wq]
    rw[Zk (by omega)]
    apply ah.dec<;>intro a
    .simp(disch:=omega)only[↓wr,seval,wq]
     rw[Zn (by omega)]
    simp(disch:=omega)only[↓wr,seval,wq]
    apply ah.eq<;>intro b
    .simp(disch:=omega)only[↓wr,seval,wq]
     rw[Zn (by omega)]
    .simp(disch:=omega)only[↓wr,seval,wq]
     rw[Zk (by omega)]
  .simp(disch:=omega)only[↓wr,seval,wq]
   rw[Zk (by omega)]
   apply ah.dec<;>intro a
   .simp(disch:=omega)only[↓wr,seval,wq]
    rw[Zn (by omega)]
   simp(disch:=omega)only[↓wr,seval,wq]
   apply ah.eq<;>intro b
   .simp(disch:=omega)only[↓wr,seval,wq]
    rw[Zn (by omega)]
   .simp(disch:=omega)only[↓wr,seval,wq]
    rw[Zk (by omega)]
theorem Eb:∀ (l:List cn) (s:Int) (i:Nat),(∀ j e,j < i->l[j]?=some e->e.sym≠s)->(∀ e,l[i]?=some e->e.sym=s->gR l s=some ⟨1,e.to⟩)/\(l.length<=i->gR l s=none)
 | [],s,i,_=>⟨λe h=>by simp at h,λ_=>rfl⟩
 | x :: l,s,0,_=>⟨λe h hs=>by simp at h;subst h;simp[gR,hs],λh=>by simp at h⟩
 | x :: l,s,i+1,h=>by
  have a:=h 0 x (by omega) rfl
  obtain⟨h1,b⟩:=Eb l s i λj e c he=>h (j+1) e (by omega) (by simpa using he)
  refine⟨λe he hs=>?_,λhl=>?_⟩
  .rw[gR,Zk a];exact h1 e (by simpa using he) hs
  .rw[gR,Zk a];exact b (by simpa using hl)
theorem Pz (g:aj) (w:g.Ok) (s:aM) (hs:aJ s.aK/\aJ s.bf) (t:Int):az Tryz.prog 130 [.agg (ag g),.agg (dy s),gi t] (.agg (dU (gA g s t))):=by
 obtain⟨o,p⟩:=hs
 have y:=w.af
 unfold aJ at o p y
 refine az.tree (by
  intro v u;simp at u
  rcases u with rfl | rfl | rfl
  .exact cb _ (cY g)
  .exact cb _ (zn s)
  .exact .val _) (cb _ (BO _)) λH=>?_
 refine au.of mixed xh ?_
 simp(disch:=omega)only[↓wr,seval,wq,qI]
 refine⟨rfl,rfl,λb f=>?_⟩
 refine aR.up s.aK.length (λi T H'=>(∀ j e,j < i->s.aK[j]?=some e->e.sym≠t)/\H' b=.arr 2 [[gi 0,gi 0]]/\T 2=gi t/\T 3=.aI (ag g) 0/\T 4=.aI (dy s) 0/\T 6=.ptr b 0 0/\T 7=gi i) ⟨λj e h=>by omega,by simp[View.set],rfl,rfl,rfl,rfl,rfl⟩ ?_
 rintro i k T H hk ⟨a,f,t2,t3,t4,t6,t7⟩
 obtain⟨f1,f2⟩:=Eb s.aK t i a
 simp(disch:=omega)only[↓wr,seval,wq,pq,t2,t3,t4,t6,t7,dy,fc]
 apply ah.dec<;>intro z
 .have hE:s.aK[i]?=some (s.aK[i]'(by omega)):=Zj (by omega)
  generalize s.aK[i]'(by omega)=E at hE
  simp(disch:=omega)only[↓wr,seval,wq,t2,t3,t4,t6,t7,dy,fc,Zm,hE,Zq,iX]
  apply ah.eq<;>intro he
  .simp(disch:=omega)only[↓wr,seval,wq,t2,t3,t4,t6,t7,dy,fc,Zm,hE,Zq,iX,f]
   rw[gA,f1 E hE he]
   rfl
  .simp(disch:=omega)only[↓wr,seval,wq,t2,t3,t4,t6,t7]
   refine aE hk (by omega) ⟨λj e q c=>?_,f,t2,t3,t4,t6,rfl⟩
   rcases ZI j i with h | h
   .exact a j e h c
   .have:j=i:=by omega
    subst this
    rw[hE] at c;simp at c;subst c;exact he
 have d:=f2 (by omega)
 simp(disch:=omega)only[↓wr,seval,wq,t2,t3,t4,t6]
 refine aR.up s.bf.length (λi T H'=>(t=g.af.length->∀ j x,j < i->s.bf[j]?=some x->x≠(⟨-1,1⟩:aB))/\H' b=.arr 2 [[gi 0,gi 0]]/\T 2=gi t/\T 3=.aI (ag g) 0/\T 4=.aI (dy s) 0/\T 6=.ptr b 0 0/\T 8=gi i) ⟨λ_ j e h=>by omega,f,t2,t3,t4,t6,rfl⟩ ?_
 clear a f t2 t3 t4 t6 t7 f1 f2
 rintro i k2 B C l ⟨a,f,t2,t3,t4,t6,t8⟩
 simp(disch:=omega)only[↓wr,seval,wq,pf,t2,t3,t4,t6,t8,dy,aU]
 apply ah.dec<;>intro r
 .have m:s.bf[i]?=some (s.bf[i]'(by omega)):=Zj (by omega)
  generalize s.bf[i]'(by omega)=x at m
  simp(disch:=omega)only[↓wr,seval,wq,t2,t3,t4,t6,t8,ag]
  apply ah.eq<;>intro n
  .simp(disch:=omega)only[↓wr,seval,wq,t2,t3,t4,t6,t8,dy,aU,Zm,m,Zq,bE]
   refine fQ (xs:=#[.int .i64 x.aw,.int .i64 x.dot]) (ys:=#[.int .i64 (-1),.int .i64 1]) Tryz.underlying33 (by kernel_rfl) (by kernel_rfl) ?_ ?_ (mr x ⟨-1,1⟩) (.inl ⟨rfl,rfl⟩) ?_
   .rfl
   .rfl
   rw[uV]
   simp(disch:=omega)only[↓wr,seval,wq]
   apply ah.dec<;>intro he
   .simp(disch:=omega)only[↓wr,seval,wq,t2,t3,t4,t6,t8,f]
    rw[gA,d]
    simp only
    rw[Zn ⟨n,he ▸ Zp m⟩]
    rfl
   .simp(disch:=omega)only[↓wr,seval,wq,t2,t3,t4,t6,t8]
    refine aE l (by omega) ⟨λ_ j e q c=>?_,f,t2,t3,t4,t6,rfl⟩
    rcases ZI j i with h | h
    .exact a n j e h c
    .have:j=i:=by omega
     subst this
     rw[m] at c;simp at c;subst c;exact he
  .simp(disch:=omega)only[↓wr,seval,wq,t2,t3,t4,t6,t8]
   exact aE l (by omega) ⟨λh=>absurd h n,f,t2,t3,t4,t6,rfl⟩
 .simp(disch:=omega)only[↓wr,seval,wq,t6,f]
  rw[gA,d]
  simp only
  rw[Zk]
  .rfl
  .rintro⟨h1,A⟩
   obtain⟨j,q,e⟩:=aaA.1 A
   exact a h1 j _ (by omega) (by rw[Zj q,e]) rfl
def vt:SF:=⟨ae [ab [bz 2 false],ab [aa 3 0,aa 4 0,aS 5 .neq 3 4,aa 2 5],.ret],
 [.tmp 2],6⟩
theorem Ax:aN Tryz.prog 173 []=some vt:=by kernel_rfl
def sD:SF:=⟨ae [ab [aQ 4 0],ab [aa 7 0,bh 8 173 [7],aa 5 8],ab [aa 9 1,bh 10 173 [9],aa 6 10],ae [ab [aa 11 5],bc 11 (ae [ae [ab [aa 12 6],bc 12 (ae [ab [aQ 4 0],.ret])],ab [aQ 4 (-1)],.ret])],ae [ab [aa 13 6],bc 13 (ae [ab [aQ 4 1],.ret])],ae [ab [aa 14 0,aa 15 1,aS 16 .lss 14 15],bc 16 (ae [ab [aQ 4 (-1)],.ret])],ae [ab [aa 17 0,aa 18 1,aS 19 .gtr 17 18],bc 19 (ae [ab [aQ 4 1],.ret])],ab [aQ 4 0],.ret],
 [.tmp 4],20⟩
theorem xF:aN Tryz.prog 126 []=some sD:=by kernel_rfl
def yb:SF:=⟨ae [ab [cw 3 0,aQ 6 0],.block 0 (ae [.region false [⟨none,[aT 11 4 3,bh 12 52 [11],c6 13 12,aa 14 13]⟩,⟨(some (14,false)),[aa 15 1,aG 16 .lss 15 0]⟩,⟨none,[cD 17 14 16,aa 18 17]⟩,⟨(some (18,false)),[aa 19 1,ao 20 2 3,ai 21 20,aP 22 21,aS 23 .geq 19 22]⟩,⟨none,[cD 24 18 23,aa 25 24]⟩,⟨(some (25,false)),[aa 26 2,aG 27 .lss 26 0]⟩,⟨none,[cD 28 25 27,aa 29 28]⟩,⟨(some (29,false)),[aa 30 2,ao 31 0 3,ai 32 31,aP 33 32,aS 34 .gtr 30 33]⟩,⟨none,[cD 35 29 34,aa 10 35]⟩],.cond (.tmp 10) (ae [ab [aQ 6 0],.ret]) (ae [.region false [⟨none,[aa 37 2,ao 38 0 3,ai 39 38,aP 40 39,aS 41 .eql 37 40,aa 42 41]⟩,⟨(some (42,false)),[ao 43 2 3,ai 44 43,aa 45 1,aH 46 3 44 45,ao 47 2 46,ai 48 47,aG 49 .lss 48 0]⟩,⟨none,[cD 50 42 49,aa 36 50]⟩],bc 36 (ae [ab [aQ 6 4],.ret])])]),.region false [⟨none,[ao 51 0 3,ai 52 51,ao 53 2 3,ai 54 53,aa 55 1,aH 56 3 54 55,ao 57 2 56,ai 58 57,aH 59 3 52 58,aT 60 3 59,ao 61 0 3,ai 62 61,aa 63 2,aH 64 3 62 63,aT 65 3 64,((some 7),.op (.alloc [(.val (.string ⟨#[]⟩)),(.val (.int .i64 0)),(.val (.int .i64 0))])),((some 8),.op (.alloc [(.val (.string ⟨#[]⟩)),(.val (.int .i64 0)),(.val (.int .i64 0))])),bK 3 7 60,bK 3 8 65]⟩],ae [.region false [⟨none,[ao 66 1 7,ai 67 66,aG 68 .eql 67 0,aa 69 68]⟩,⟨(some (69,false)),[ao 70 1 8,ai 71 70,aG 72 .eql 71 0]⟩,⟨none,[cD 73 69 72]⟩],bc 73 (ae [ab [aQ 6 4],.ret])],ae [ab [ao 74 1 7,ai 75 74,ao 76 1 8,ai 77 76,bh 78 126 [75,77],aa 9 78],.block 1 (ae [ab [aa 80 9,aG 81 .gtr 80 0,aa 79 81],.cond (.tmp 79) (ae [ab [aQ 6 1],.ret]) (ae [ab [aa 83 9,aG 84 .lss 83 0,aa 82 84],bc 82 (ae [ab [aQ 6 2],.ret])])])],ae [ab [ao 85 2 8,ai 86 85],.block 2 (ae [ab [aG 88 .eql 86 1,aa 87 88],.cond (.tmp 87) (ae [ab [aQ 6 1],.ret]) (ae [ab [aG 90 .eql 86 2,aa 89 90],bc 89 (ae [ab [aQ 6 2],.ret])])])],ab [aQ 6 3],.ret],
 [.tmp 6],91⟩
theorem Cw:aN Tryz.prog 84 [3]=some yb:=by kernel_rfl
def JN (x y:Int):Int:=if x < y then -1 else if y < x then 1 else 0
theorem Jc (x:Int):az Tryz.prog 173 [gi x] (gb false):=by
 refine az.val (by intro v a;simp at a;subst a;exact .val _) λH=>?_
 refine au.of mixed Ax ?_
 simp(disch:=omega)only[↓wr,seval,wq,vt]
 try simp
theorem N9 (x y:Int):az Tryz.prog 126 [gi x,gi y] (gi (JN x y)):=by
 refine az.val (by intro v b;simp at b;rcases b with rfl | rfl <;> exact .val _) λH=>?_
 refine au.of mixed xF ?_
 simp(disch:=omega)only[↓wr,seval,wq,sD]
 refine ax.pure (Jc x) ?_
 simp(disch:=omega)only[↓wr,seval,wq]
 refine ax.pure (Jc y) ?_
 simp(disch:=omega)only[↓wr,seval,wq]
 apply ah.dec<;>intro h1
 .simp(disch:=omega)only[↓wr,seval,wq]
  rw[JN,Zn h1]
 simp(disch:=omega)only[↓wr,seval,wq]
 apply ah.dec<;>intro a
 .simp(disch:=omega)only[↓wr,seval,wq]
  rw[JN,Zk h1,Zn a]
 simp(disch:=omega)only[↓wr,seval,wq]
 rw[JN,Zk h1,Zk a]
theorem Ou (g:aj) (w:g.Ok) (i:g.Small) (aw term:Int):az Tryz.prog 84 [.agg (ag g),gi aw,gi term] (gi (fg g aw term)):=by
 refine az.val (by
  intro v l;simp at l
  rcases l with rfl | rfl | rfl
  .exact cb _ (cY g)
  .exact .val _
  .exact .val _) λH=>?_
 have c:=oZ g w i.names
 refine au.of mixed Cw ?_
 simp only[ag,encS] at c
 simp(disch:=omega)only[↓wr,seval,wq,yb,ag,encS]
 refine ax.pure c ?_
 have bad:bI g=false∨aw < 0∨(g.rules.length:Int)<=aw∨term < 0∨(g.af.length:Int) < term->fg g aw term=0:=λh=>by rw[fg,Zn h]
 cases hr:bI g with
 | false =>
  simp(disch:=omega)only[↓wr,seval,wq]
  rw[bad (.inl hr)]
 | true =>
  have x:=bD hr
  simp(disch:=omega)only[↓wr,seval,wq]
  apply ah.dec<;>intro h1
  .simp(disch:=omega)only[↓wr,seval,wq]
   rw[bad (.inr (by omega))]
  simp(disch:=omega)only[↓wr,seval,wq,ag]
  apply ah.dec<;>intro y
  .simp(disch:=omega)only[↓wr,seval,wq]
   rw[bad (.inr (by omega))]
  simp(disch:=omega)only[↓wr,seval,wq]
  apply ah.dec<;>intro z
  .simp(disch:=omega)only[↓wr,seval,wq]
   rw[bad (.inr (by omega))]
  simp(disch:=omega)only[↓wr,seval,wq,ag]
  apply ah.dec<;>intro A
  .simp(disch:=omega)only[↓wr,seval,wq]
   rw[bad (.inr (by omega))]
  have f:g.rules[aw.toNat]?=some (ay g aw):=by unfold ay;exact getD_some (by omega)
  have B:=x.prec _ (Zp f)
  have m:fg g aw term=if term=g.af.length∨(ay g aw).prec < 0∨ey g (ay g aw).prec=0∨ey g term=0 then 4
    else if ey g term < ey g (ay g aw).prec∨ey g (ay g aw).prec=ey g term/\sC g term=1 then 1
    else if ey g (ay g aw).prec < ey g term∨sC g term=2 then 2 else 3:=by
   rw[fg,Zk (by rw[hr];simp;omega)]
  rw[m]
  clear m bad
  generalize ay g aw=R at f B
  simp(disch:=omega)only[↓wr,seval,wq,ag]
  apply ah.eq<;>intro n
  .simp(disch:=omega)only[↓wr,seval,wq]
   rw[Zn (.inl n)]
  simp(disch:=omega)only[↓wr,seval,wq,ag,Zm,f,Zq,aO]
  apply ah.dec<;>intro o
  .simp(disch:=omega)only[↓wr,seval,wq]
   rw[Zn (.inr (.inl o))]
  have hp:g.af[R.prec.toNat]?=some (g.af[R.prec.toNat]'(by omega)):=Zj (by omega)
  have hq:g.af[term.toNat]?=some (g.af[term.toNat]'(by omega)):=Zj (by omega)
  generalize g.af[R.prec.toNat]'(by omega)=p at hp
  generalize g.af[term.toNat]'(by omega)=q at hq
  obtain⟨C,_⟩:=vH hp
  obtain⟨D,E⟩:=vH hq
  rw[C,D,E]
  have d:=N9 p.level q.level
  simp(disch:=omega)only[↓wr,seval,wq,ag,Zm,f,hp,hq,Zq,aO,bS]
  intro r F s j
  have a:¬ r=s:=λe=>(cP j cI).1 e.symm
  have b:¬ s=r:=λe=>a e.symm
  simp(disch:=omega)only[↓wr,seval,wq,a,b,set_set,bS]
  apply ah.eq<;>intro t
  .simp(disch:=omega)only[↓wr,seval,wq]
   rw[Zn (.inr (.inr (.inl t)))]
  simp(disch:=omega)only[↓wr,seval,wq,a,b,bS]
  apply ah.eq<;>intro u
  .simp(disch:=omega)only[↓wr,seval,wq]
   rw[Zn (.inr (.inr (.inr u)))]
  rw[Zk (by omega)]
  simp(disch:=omega)only[↓wr,seval,wq,a,b,bS]
  refine ax.pure d ?_
  unfold JN
  simp(disch:=omega)only[↓wr,seval,wq]
  by_cases c1:p.level < q.level
  .rw[Zn c1,Zk (by omega),Zn (by omega)]
   refine ah.dec (λh=>absurd h (by omega)) (λ_=>?_)
   simp(disch:=omega)only[↓wr,↓reduceIte,wq,Nat.reduceEqDiff,Nat.reduceAdd,Nat.reduceLT,Nat.reduceLeDiff,Int.reduceNeg,Int.reduceToNat,reduceCtorEq]
   refine ah.dec (λ_=>?_) (λh=>absurd (by omega) h)
   simp(disch:=omega)only[↓wr,seval,wq]
  rw[Zk c1]
  by_cases c2:q.level < p.level
  .rw[Zn c2,Zn (by omega)]
   refine ah.dec (λ_=>?_) (λh=>absurd (by omega) h)
   simp(disch:=omega)only[↓wr,seval,wq]
  rw[Zk c2]
  refine ah.dec (λh=>absurd h (by omega)) (λ_=>?_)
  simp(disch:=omega)only[↓wr,↓reduceIte,wq,Nat.reduceEqDiff,Nat.reduceAdd,Nat.reduceLT,Nat.reduceLeDiff,Int.reduceNeg,Int.reduceToNat,reduceCtorEq]
  refine ah.dec (λh=>absurd h (by omega)) (λ_=>?_)
  simp(disch:=omega)only[↓wr,seval,wq,a,b,bS]
  apply ah.eq<;>intro G
  .simp(disch:=omega)only[↓wr,seval,wq]
   rw[Zn (by omega)]
  simp(disch:=omega)only[↓wr,seval,wq]
  apply ah.eq<;>intro k
  .simp(disch:=omega)only[↓wr,seval,wq]
   rw[Zk (by omega),Zn (by omega)]
  simp(disch:=omega)only[↓wr,seval,wq]
  rw[Zk (by omega),Zk (by omega)]
end Gv
