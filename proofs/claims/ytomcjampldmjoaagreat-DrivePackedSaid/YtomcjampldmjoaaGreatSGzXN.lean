/-
  Part 14 of the proof: what the machine does and what the functions answer.
  Conditions: those that each lemma names.
-/
import Derived.Test.YtomcjampldmjoaaGreatSGzXM
set_option linter.unusedSimpArgs false
set_option linter.unusedVariables false
set_option maxRecDepth 100000
namespace Gv
open Go Go.Proofs
theorem yE (p:fp):∀ v∈[V.agg (aZ p)],Tree v:=by
  intro v hv; simp at hv; subst hv
  exact b9 _ (A6 p)
theorem zR (x y:Cell):fc Tryz.prog 9998 #[.int .i64 x.kind,.int .i64 x.n] #[.int .i64 y.kind,.int .i64 y.n]
    [{ name:= "Kind",type:=3,offset:=0,embedded:=false,tag:= "",pkgPath:= "",byteOffset:=0 },{ name:= "N",type:=3,offset:=1,embedded:=false,tag:= "",pkgPath:= "",byteOffset:=8 }] ((x.kind == y.kind) && ((x.n == y.n) && true)) :=
  .int _ _ _ .i64 _ _ (by decide) Tryz.underlying3 rfl rfl (.int _ _ _ .i64 _ _ (by decide) Tryz.underlying3 rfl rfl .nil)
theorem Gf (x y:Cell):((x.kind == y.kind) && ((x.n == y.n) && true))=decide (x=y):=by
  cases x; cases y; simp[Bool.and_eq_decide,← Bool.decide_and]
def oP (n:Nat) (x:Int):Bool:=decide (0≤x) && decide (x < n)
theorem m0 {α:Type} {l:List α} {f:α→Bool} {i:Nat} {x:α} (h:l[i]?=some x):(l.take (i+1)).all f=((l.take i).all f && f x):=by
  rw[List.take_add_one,h]; simp
theorem kP {α:Type} {l:List α} {f:α→Bool} {i:Nat} {x:α} (h:l[i]?=some x) (hx:f x=false):l.all f=false:=by
  rw[Bool.eq_false_iff]
  intro hl
  have:=List.all_eq_true.1 hl x (List.mem_of_getElem? h)
  rw[hx] at this; exact Bool.false_ne_true this
set_option maxHeartbeats 8000000 in
theorem JG (p:fp) (hp:p.Ok):aI Tryz.prog 94 [.agg (aZ p)] (gb (ez p)):=by
  refine aI.val (yE p) fun H=>?_
  have h1:=hp.of.1
  have h2:=hp.to.1
  have h3:=hp.rows
  have h4:=hp.gotos
  unfold aR at h1 h2 h3 h4
  refine aG.of mixed su ?_
  have hneg:¬ (0≤p.av∧p.av≤24∧0≤p.aw∧p.aw≤16∧1≤p.of.length∧p.of.length≤300∧p.to.length=p.of.length∧p.rows.length≤300∧p.gotos.length≤300)→gb false=gb (ez p):=fun h=>by
    unfold ez; rw[decide_eq_false h]; simp
  simp (disch:=omega) only [↓wr,↓reduceIte,wq,ah,ag,ak,ab,ae,af,ai,isNil,Nat.reduceEqDiff,Nat.reduceAdd,Nat.reduceLT,Nat.reduceLeDiff,Int.reduceNeg,Int.reduceToNat,reduceCtorEq,mS,aZ]
  repeat' (first | (refine ar.dec (fun _=>?_) (fun _=>?_)) | (refine ar.eq (fun _=>?_) (fun _=>?_)) | (refine ar.ne (fun _=>?_) (fun _=>?_)) | (refine ar.split (fun _=>?_) (fun _=>?_)) | (simp (disch:=omega) only [↓wr,↓reduceIte,wq,ah,ag,ak,ab,ae,af,ai,isNil,Nat.reduceEqDiff,Nat.reduceAdd,Nat.reduceLT,Nat.reduceLeDiff,Int.reduceNeg,Int.reduceToNat,reduceCtorEq,aZ,encI]))
  all_goals try exact hneg (by omega)
  have hsh:0≤p.av∧p.av≤24∧0≤p.aw∧p.aw≤16∧1≤p.of.length∧p.of.length≤300∧p.to.length=p.of.length∧p.rows.length≤300∧p.gotos.length≤300:=by omega
  rw[show ez p=((p.of.all fun x=>oP p.rows.length x) && (p.to.all fun x=>oP p.gotos.length x) && (p.rows.all fun r=>eM p.av (-1) r) && p.gotos.all fun r=>eo p.aw (-1) r) by unfold ez; rw[decide_eq_true hsh,Bool.true_and]; rfl]
  refine bp.up p.of.length (fun i T H'=>((p.of.take i).all fun x=>oP p.rows.length x)=true∧((p.to.take i).all fun x=>oP p.gotos.length x)=true∧T 1=.aQ (aZ p) 0∧T 3=gi i) ⟨by simp,by simp,rfl,rfl⟩ ?_
  rintro i k T H' hk ⟨a1,a2,t1,t3⟩
  simp (disch:=omega) only [↓wr,↓reduceIte,wq,ah,ag,ak,ab,ae,af,ai,isNil,Nat.reduceEqDiff,Nat.reduceAdd,Nat.reduceLT,Nat.reduceLeDiff,Int.reduceNeg,Int.reduceToNat,reduceCtorEq,ld,t1,t3,aZ,encI]
  refine ar.dec (fun hc=>?_) (fun hc=>?_)
  · have ho:p.of[i]?=some (p.of[i]'(by omega)):=List.getElem?_eq_getElem (by omega)
    have ht:p.to[i]?=some (p.to[i]'(by omega)):=List.getElem?_eq_getElem (by omega)
    generalize p.of[i]'(by omega)=x at ho
    generalize p.to[i]'(by omega)=y at ht
    have hbad:¬ (0≤x∧x < p.rows.length∧0≤y∧y < p.gotos.length)→gb false=gb ((p.of.all fun x=>oP p.rows.length x) && (p.to.all fun x=>oP p.gotos.length x) && (p.rows.all fun r=>eM p.av (-1) r) && p.gotos.all fun r=>eo p.aw (-1) r):=fun h=>by
      by_cases hx:oP p.rows.length x=true
      · have hy:oP p.gotos.length y=false:=by
          unfold oP at hx ⊢
          simp only[Bool.and_eq_true,decide_eq_true_eq] at hx
          rw[Bool.and_eq_false_iff,decide_eq_false_iff_not,decide_eq_false_iff_not]; omega
        rw[kP ht hy]; simp
      · rw[kP ho (by simpa using hx)]; simp
    simp (disch:=omega) only [↓wr,↓reduceIte,wq,ah,ag,ak,ab,ae,af,ai,isNil,Nat.reduceEqDiff,Nat.reduceAdd,Nat.reduceLT,Nat.reduceLeDiff,Int.reduceNeg,Int.reduceToNat,reduceCtorEq,t1,t3,aZ,encI,List.getElem?_map,ho,ht,Option.map_some]
    repeat' (first | (refine ar.dec (fun _=>?_) (fun _=>?_)) | (refine ar.eq (fun _=>?_) (fun _=>?_)) | (refine ar.ne (fun _=>?_) (fun _=>?_)) | (refine ar.split (fun _=>?_) (fun _=>?_)) | (simp (disch:=omega) only [↓wr,↓reduceIte,wq,ah,ag,ak,ab,ae,af,ai,isNil,Nat.reduceEqDiff,Nat.reduceAdd,Nat.reduceLT,Nat.reduceLeDiff,Int.reduceNeg,Int.reduceToNat,reduceCtorEq,t1,t3,aZ,encI,List.getElem?_map,ho,ht,Option.map_some]))
    all_goals try exact hbad (by omega)
    exact br hk (by omega) ⟨by rw[m0 ho,a1]; unfold oP; simp; omega,by rw[m0 ht,a2]; unfold oP; simp; omega,t1,rfl⟩
  rw[List.take_of_length_le (by omega)] at a1 a2
  rw[a1,a2,Bool.true_and,Bool.true_and]
  simp (disch:=omega) only [↓wr,↓reduceIte,wq,ah,ag,ak,ab,ae,af,ai,isNil,Nat.reduceEqDiff,Nat.reduceAdd,Nat.reduceLT,Nat.reduceLeDiff,Int.reduceNeg,Int.reduceToNat,reduceCtorEq,t1,t3]
  refine bp.up p.rows.length (fun i T H'=>((p.rows.take i).all fun r=>eM p.av (-1) r)=true∧T 1=.aQ (aZ p) 0∧T 4=gi i) ⟨by simp,t1,rfl⟩ ?_
  rintro i2 k2 T2 H2 hk2 ⟨a3,t1,t4⟩
  simp (disch:=omega) only [↓wr,↓reduceIte,wq,ah,ag,ak,ab,ae,af,ai,isNil,Nat.reduceEqDiff,Nat.reduceAdd,Nat.reduceLT,Nat.reduceLeDiff,Int.reduceNeg,Int.reduceToNat,reduceCtorEq,kZ,t1,t4,aZ]
  refine ar.dec (fun hc2=>?_) (fun hc2=>?_)
  · have hr:p.rows[i2]?=some (p.rows[i2]'(by omega)):=List.getElem?_eq_getElem (by omega)
    generalize p.rows[i2]'(by omega)=row at hr
    have hrl:=(hp.row row (List.mem_of_getElem? hr)).1
    unfold aR at hrl
    simp (disch:=omega) only [↓wr,↓reduceIte,wq,ah,ag,ak,ab,ae,af,ai,isNil,Nat.reduceEqDiff,Nat.reduceAdd,Nat.reduceLT,Nat.reduceLeDiff,Int.reduceNeg,Int.reduceToNat,reduceCtorEq,t1,t4]
    refine bp.up row.length (fun j T H'=>∃ last:Int,eM p.av (-1) row=eM p.av last (row.drop j)∧T 1=.aQ (aZ p) 0∧T 4=gi i2∧T 5=gi last∧T 6=gi j) ⟨-1,by simp,t1,t4,rfl,rfl⟩ ?_
    rintro j k3 T3 H3 hk3 ⟨last,a4,t1,t4,t5,t6⟩
    simp (disch:=omega) only [↓wr,↓reduceIte,wq,ah,ag,ak,ab,ae,af,ai,isNil,Nat.reduceEqDiff,Nat.reduceAdd,Nat.reduceLT,Nat.reduceLeDiff,Int.reduceNeg,Int.reduceToNat,reduceCtorEq,kB,t1,t4,t5,t6,aZ,List.getElem?_map,hr,Option.map_some]
    refine ar.dec (fun hc3=>?_) (fun hc3=>?_)
    · have hx:row[j]?=some (row[j]'(by omega)):=List.getElem?_eq_getElem (by omega)
      have hd:row.drop j=row[j]'(by omega) :: row.drop (j+1):=List.drop_eq_getElem_cons (by omega)
      generalize row[j]'(by omega)=x at hx hd
      have a4':=a4
      rw[hd,eM] at a4
      simp (disch:=omega) only [↓wr,↓reduceIte,wq,ah,ag,ak,ab,ae,af,ai,isNil,Nat.reduceEqDiff,Nat.reduceAdd,Nat.reduceLT,Nat.reduceLeDiff,Int.reduceNeg,Int.reduceToNat,reduceCtorEq,t1,t4,t5,t6,aZ,List.getElem?_map,hr,hx,Option.map_some,ep]
      intro b hb
      rw[set_set]
      have hbb:(H3.set b (.arr 3 [[gi x.dA,gi x.cell.kind,gi x.cell.n]])) b=.arr 3 [[gi x.dA,gi x.cell.kind,gi x.cell.n]]:=by simp[View.set]
      generalize H3.set b (.arr 3 [[gi x.dA,gi x.cell.kind,gi x.cell.n]])=H4 at hbb
      have hbad:eM p.av last (x :: row.drop (j+1))=false→gb false=gb ((p.rows.all fun r=>eM p.av (-1) r) && p.gotos.all fun r=>eo p.aw (-1) r):=fun h=>by
        rw[← hd,] at h
        rw[kP hr (by rw[a4',h])]; rfl
      repeat' (first | (refine ar.dec (fun _=>?_) (fun _=>?_)) | (refine ar.eq (fun _=>?_) (fun _=>?_)) | (refine ar.ne (fun _=>?_) (fun _=>?_)) | (refine ar.split (fun _=>?_) (fun _=>?_)) | (simp (disch:=omega) only [↓wr,↓reduceIte,wq,ah,ag,ak,ab,ae,af,ai,isNil,Nat.reduceEqDiff,Nat.reduceAdd,Nat.reduceLT,Nat.reduceLeDiff,Int.reduceNeg,Int.reduceToNat,reduceCtorEq,t1,t4,t5,t6,hbb,aZ]))
      · exact hbad (by rw[eM,decide_eq_false (show ¬ last < x.dA by omega)]; simp)
      · exact hbad (by rw[eM,decide_eq_false (show ¬ x.dA≤p.av by omega)]; simp)
      refine te (xs:=#[.int .i64 x.cell.kind,.int .i64 x.cell.n]) (ys:=#[.int .i64 0,.int .i64 0]) Tryz.underlying84 (by kernel_rfl) (by kernel_rfl) ?_ ?_ (zR x.cell ⟨0,0⟩) (.inl ⟨rfl,rfl⟩) ?_
      · rfl
      · rfl
      rw[Gf]
      simp (disch:=omega) only [↓wr,↓reduceIte,wq,ah,ag,ak,ab,ae,af,ai,isNil,Nat.reduceEqDiff,Nat.reduceAdd,Nat.reduceLT,Nat.reduceLeDiff,Int.reduceNeg,Int.reduceToNat,reduceCtorEq,t1,t4,t5,t6,hbb,aZ]
      refine ar.dec (fun he=>?_) (fun he=>?_)
      · simp (disch:=omega) only [↓wr,↓reduceIte,wq,ah,ag,ak,ab,ae,af,ai,isNil,Nat.reduceEqDiff,Nat.reduceAdd,Nat.reduceLT,Nat.reduceLeDiff,Int.reduceNeg,Int.reduceToNat,reduceCtorEq]
        exact hbad (by rw[eM,decide_eq_false (show ¬ x.cell≠⟨0,0⟩ by simp[he])]; simp)
      · simp (disch:=omega) only [↓wr,↓reduceIte,wq,ah,ag,ak,ab,ae,af,ai,isNil,Nat.reduceEqDiff,Nat.reduceAdd,Nat.reduceLT,Nat.reduceLeDiff,Int.reduceNeg,Int.reduceToNat,reduceCtorEq,t1,t4,t5,t6,hbb,aZ]
        refine br hk3 (by omega) ⟨x.dA,by rw[a4,decide_eq_true (show last < x.dA by omega),decide_eq_true (show x.dA≤p.av by omega),decide_eq_true he]; rfl,t1,t4,rfl,rfl⟩
    · rw[List.drop_eq_nil_of_le (by omega),eM] at a4
      simp (disch:=omega) only [↓wr,↓reduceIte,wq,ah,ag,ak,ab,ae,af,ai,isNil,Nat.reduceEqDiff,Nat.reduceAdd,Nat.reduceLT,Nat.reduceLeDiff,Int.reduceNeg,Int.reduceToNat,reduceCtorEq,t1,t4,t5,t6]
      exact br hk2 (by omega) ⟨by rw[m0 hr,a3,a4]; rfl,t1,rfl⟩
  rw[List.take_of_length_le (by omega)] at a3
  rw[a3,Bool.true_and]
  simp (disch:=omega) only [↓wr,↓reduceIte,wq,ah,ag,ak,ab,ae,af,ai,isNil,Nat.reduceEqDiff,Nat.reduceAdd,Nat.reduceLT,Nat.reduceLeDiff,Int.reduceNeg,Int.reduceToNat,reduceCtorEq,t1,t4]
  refine bp.up p.gotos.length (fun i T H'=>((p.gotos.take i).all fun r=>eo p.aw (-1) r)=true∧T 1=.aQ (aZ p) 0∧T 8=gi i) ⟨by simp,t1,rfl⟩ ?_
  rintro i2 k2 T2 H2 hk2 ⟨a3,t1,t4⟩
  simp (disch:=omega) only [↓wr,↓reduceIte,wq,ah,ag,ak,ab,ae,af,ai,isNil,Nat.reduceEqDiff,Nat.reduceAdd,Nat.reduceLT,Nat.reduceLeDiff,Int.reduceNeg,Int.reduceToNat,reduceCtorEq,kH,t1,t4,aZ]
  refine ar.dec (fun hc2=>?_) (fun hc2=>?_)
  · have hr:p.gotos[i2]?=some (p.gotos[i2]'(by omega)):=List.getElem?_eq_getElem (by omega)
    generalize p.gotos[i2]'(by omega)=row at hr
    have hrl:=(hp.go row (List.mem_of_getElem? hr)).1
    unfold aR at hrl
    simp (disch:=omega) only [↓wr,↓reduceIte,wq,ah,ag,ak,ab,ae,af,ai,isNil,Nat.reduceEqDiff,Nat.reduceAdd,Nat.reduceLT,Nat.reduceLeDiff,Int.reduceNeg,Int.reduceToNat,reduceCtorEq,t1,t4]
    refine bp.up row.length (fun j T H'=>∃ last:Int,eo p.aw (-1) row=eo p.aw last (row.drop j)∧T 1=.aQ (aZ p) 0∧T 8=gi i2∧T 9=gi last∧T 10=gi j) ⟨-1,by simp,t1,t4,rfl,rfl⟩ ?_
    rintro j k3 T3 H3 hk3 ⟨last,a4,t1,t4,t5,t6⟩
    simp (disch:=omega) only [↓wr,↓reduceIte,wq,ah,ag,ak,ab,ae,af,ai,isNil,Nat.reduceEqDiff,Nat.reduceAdd,Nat.reduceLT,Nat.reduceLeDiff,Int.reduceNeg,Int.reduceToNat,reduceCtorEq,kE,t1,t4,t5,t6,aZ,List.getElem?_map,hr,Option.map_some]
    refine ar.dec (fun hc3=>?_) (fun hc3=>?_)
    · have hx:row[j]?=some (row[j]'(by omega)):=List.getElem?_eq_getElem (by omega)
      have hd:row.drop j=row[j]'(by omega) :: row.drop (j+1):=List.drop_eq_getElem_cons (by omega)
      generalize row[j]'(by omega)=x at hx hd
      have a4':=a4
      rw[hd,eo] at a4
      simp (disch:=omega) only [↓wr,↓reduceIte,wq,ah,ag,ak,ab,ae,af,ai,isNil,Nat.reduceEqDiff,Nat.reduceAdd,Nat.reduceLT,Nat.reduceLeDiff,Int.reduceNeg,Int.reduceToNat,reduceCtorEq,t1,t4,t5,t6,aZ,List.getElem?_map,hr,hx,Option.map_some,en]
      intro b hb
      rw[set_set]
      have hbb:(H3.set b (.arr 2 [[gi x.sym,gi x.to]])) b=.arr 2 [[gi x.sym,gi x.to]]:=by simp[View.set]
      generalize H3.set b (.arr 2 [[gi x.sym,gi x.to]])=H4 at hbb
      have hbad:eo p.aw last (x :: row.drop (j+1))=false→gb false=gb (p.gotos.all fun r=>eo p.aw (-1) r):=fun h=>by
        rw[← hd] at h
        rw[kP hr (by rw[a4',h])]
      repeat' (first | (refine ar.dec (fun _=>?_) (fun _=>?_)) | (refine ar.eq (fun _=>?_) (fun _=>?_)) | (refine ar.ne (fun _=>?_) (fun _=>?_)) | (refine ar.split (fun _=>?_) (fun _=>?_)) | (simp (disch:=omega) only [↓wr,↓reduceIte,wq,ah,ag,ak,ab,ae,af,ai,isNil,Nat.reduceEqDiff,Nat.reduceAdd,Nat.reduceLT,Nat.reduceLeDiff,Int.reduceNeg,Int.reduceToNat,reduceCtorEq,t1,t4,t5,t6,hbb,aZ]))
      · exact hbad (by rw[eo,decide_eq_false (show ¬ last < x.sym by omega)]; simp)
      · exact hbad (by rw[eo,decide_eq_false (show ¬ x.sym < p.aw by omega)]; simp)
      · exact hbad (by rw[eo,decide_eq_false (show ¬ x.to≠-1 by omega)]; simp)
      refine br hk3 (by omega) ⟨x.sym,by rw[a4,decide_eq_true (show last < x.sym by omega),decide_eq_true (show x.sym < p.aw by omega),decide_eq_true (show x.to≠-1 by omega)]; rfl,t1,t4,rfl,rfl⟩
    · rw[List.drop_eq_nil_of_le (by omega),eo] at a4
      simp (disch:=omega) only [↓wr,↓reduceIte,wq,ah,ag,ak,ab,ae,af,ai,isNil,Nat.reduceEqDiff,Nat.reduceAdd,Nat.reduceLT,Nat.reduceLeDiff,Int.reduceNeg,Int.reduceToNat,reduceCtorEq,t1,t4,t5,t6]
      exact br hk2 (by omega) ⟨by rw[m0 hr,a3,a4]; rfl,t1,rfl⟩
  rw[List.take_of_length_le (by omega)] at a3
  rw[a3]
  simp (disch:=omega) only [↓wr,↓reduceIte,wq,ah,ag,ak,ab,ae,af,ai,isNil,Nat.reduceEqDiff,Nat.reduceAdd,Nat.reduceLT,Nat.reduceLeDiff,Int.reduceNeg,Int.reduceToNat,reduceCtorEq]
theorem vg {p:fp} (h:ez p=true):(0≤p.av∧p.av≤24∧0≤p.aw∧p.aw≤16∧1≤p.of.length∧p.of.length≤300∧p.to.length=p.of.length∧p.rows.length≤300∧p.gotos.length≤300) ∧
    (∀ x∈p.of,0≤x∧x < (p.rows.length:Int))∧(∀ x∈p.to,0≤x∧x < (p.gotos.length:Int))∧(∀ r∈p.rows,eM p.av (-1) r=true)∧∀ r∈p.gotos,eo p.aw (-1) r=true:=by
  unfold ez at h
  simp only[Bool.and_eq_true,decide_eq_true_eq,List.all_eq_true] at h
  exact ⟨h.1.1.1.1,h.1.1.1.2,h.1.1.2,h.1.2,h.2⟩
theorem Aq {t:Int} : ∀ {last:Int} {l:List gz},-1≤last→eM t last l=true→∀ x∈l,0≤x.dA∧x.dA≤t
  | _,[],_,_,x,hx=>by simp at hx
  | last,y :: l,h0,h,x,hx=>by
    simp only[eM,Bool.and_eq_true,decide_eq_true_eq] at h
    rcases List.mem_cons.1 hx with rfl | hx
    · omega
    · exact Aq (by omega) h.2 x hx
theorem zZ {t:Int} : ∀ {last:Int} {l:List gI},-1≤last→eo t last l=true→∀ x∈l,0≤x.sym∧x.sym < t
  | _,[],_,_,x,hx=>by simp at hx
  | last,y :: l,h0,h,x,hx=>by
    simp only[eo,Bool.and_eq_true,decide_eq_true_eq] at h
    rcases List.mem_cons.1 hx with rfl | hx
    · omega
    · exact zZ (by omega) h.2 x hx
theorem iZ (l:List gz):∀ a:List Cell,(eL l a).length=a.length:=by
  induction l with
  | nil=>intro a; rfl
  | cons x l ih=>intro a; exact (ih _).trans (by simp)
theorem fU (l:List gI):∀ a:List Int,(gv l a).length=a.length:=by
  induction l with
  | nil=>intro a; rfl
  | cons x l ih=>intro a; exact (ih _).trans (by simp)
theorem BQ {l:List gz} {a:List Cell} {j:Nat} {x:gz} (h:l[j]?=some x):eL (l.take (j+1)) a=(eL (l.take j) a).set x.dA.toNat x.cell:=by
  unfold eL; rw[List.take_add_one,h]; simp
theorem BM {l:List gI} {a:List Int} {j:Nat} {x:gI} (h:l[j]?=some x):gv (l.take (j+1)) a=(gv (l.take j) a).set x.sym.toNat x.to:=by
  unfold gv; rw[List.take_add_one,h]; simp
theorem bA.as {H:View} {u:V} {sz:Nat} {es es':List (List V)} {L:List e9} (h:bA H ((u,sz,es) :: L)) (e:es=es'):bA H ((u,sz,es') :: L):=e ▸ h
theorem bA.QT {H:View} {u:V} {sz:Nat} {es es':List (List V)} {x:e9} {L:List e9} (h:bA H (x :: (u,sz,es) :: L)) (e:es=es'):bA H (x :: (u,sz,es') :: L):=e ▸ h
theorem Mw {α:Type} (a b:α) {j n:Nat} (h:j < n):(List.replicate j a ++ List.replicate (n - j) b).set j a=List.replicate (j+1) a ++ List.replicate (n - (j+1)) b:=by
  obtain ⟨m,hm⟩:∃ m,n - j=m+1:=⟨n - j - 1,by omega⟩
  rw[List.set_append_right _ _ (by simp),hm,show n - (j+1)=m by omega,List.length_replicate,Nat.sub_self,List.replicate_succ (n:=m),List.set_cons_zero,List.replicate_succ',List.append_assoc]
  rfl
theorem CJ (l:List Cell) (i:Nat):List.drop 2 ((l.map bo).getD i [])=[]:=by
  rw[List.getD_eq_getElem?_getD,List.getElem?_map]
  cases l[i]? <;> rfl
theorem Ak (l:List Int) (i:Nat):List.drop 1 ((l.map fun x=>[gi x]).getD i [])=[]:=by
  rw[List.getD_eq_getElem?_getD,List.getElem?_map]
  cases l[i]? <;> rfl
theorem OZ {α:Type} {X Y b:α} {C I:List α} : (Y :: X :: b :: (C ++ I)).Perm (b :: ((C ++ [X]) ++ (I ++ [Y]))):=by
  refine B0.symm.trans (.cons _ ?_)
  rw[← List.append_assoc]
  refine .trans (.cons Y ?_) (List.perm_append_singleton Y _).symm
  rw[List.append_assoc]
  exact List.perm_middle.symm
theorem Hr {H:View} {u:V} {sz b i j:Nat} {es:List (List V)} (h:bj H u sz es) (hb:owner u≠some b):eH (.ptr b i j) u:=by
  rcases h with ⟨_,k,rfl⟩ | ⟨z,rfl,_⟩
  · simp[eH]
  · simp[eH,owner] at hb ⊢
    exact fun e=>hb e.symm
abbrev D2:=List (V × List Cell)
abbrev ID:=List (V × List Int)
def dL {α:Type} (A:List (V × α)):List (List V):=A.map fun x=>[x.1]
def zf (A:D2):List e9:=A.map fun x=>(x.1,2,x.2.map bo)
def zg (A:ID):List e9:=A.map fun x=>(x.1,1,bb x.2)
theorem CZ {h:aH} {u:V} {A:D2} (ho:bj h.view u 1 (dL A)) (hb:∀ x∈A,bj h.view x.1 2 (x.2.map bo)):cK h u (.aL ((A.map (·.2)).map fun r=>[qY r])):=by
  have hg:∀ i (hi:i < A.length),(dL A).getD i []=[(A[i]).1]∧(((A.map (·.2)).map fun r=>[qY r]).getD i [])=[qY (A[i]).2]:=fun i hi=>by
    simp[dL,List.getD_eq_getElem?_getD,hi]
  refine cK.own ho (by simp[dL]) (fun i hi=>?_) (fun i j hi hj=>?_)
  · have hi':i < A.length:=by simpa [dL] using hi
    rw[(hg i hi').1,(hg i hi').2]; rfl
  · have hi':i < A.length:=by simpa [dL] using hi
    rw[(hg i hi').2] at hj ⊢
    rw[(hg i hi').1]
    have:j=0:=by simp at hj; omega
    subst this
    simp only[List.getD_cons_zero]
    have hx:=hb _ (List.getElem_mem hi')
    generalize (A[i]'hi').2=l at hx
    refine cK.own hx rfl (fun i _=>rfl) (fun i j hi hj=>?_)
    simp only[List.length_map] at hi
    have e:(l.map bo).getD i []=bo l[i]:=by simp[List.getD_eq_getElem?_getD,hi]
    rw[e] at hj ⊢
    match j,hj with
    | 0,_=>exact .val _
    | 1,_=>exact .val _
def QQ (p:fp) (b4 b2:Nat) (i:Nat) (T:Env) (H:View):Prop:=(∃ (ua ug:V) (A:D2) (G:ID),A.map (·.2)=(cm p).aK.take i∧G.map (·.2)=(cm p).gotos.take i ∧
  bA H ((.sl b4 0 1 2,2,[[ua,ug]]) :: (ua,1,dL A) :: (ug,1,dL G) :: (.sl b2 0 1 2,2,[[.emp 1,.emp 1]]) :: (zf A ++ zg G)))∧T 1=.aQ (aZ p) 0∧T 2=.ptr b2 0 0∧T 4=.ptr b4 0 0∧T 5=gi i
theorem OI {h:aH} {u v s t:V} (h1:cK h u s) (h2:cK h v t):cK h (.agg [u,v]) (.agg [s,t]):=.agg _ _ rfl fun j hj=>by
  match j,hj with
  | 0,_=>exact h1
  | 1,_=>exact h2
theorem yT {h:aH} {u v s t:V} {e:Int} (h1:cK h u s) (h2:cK h v t):cK h (.bf [.agg [u,v],gi e]) (.bf [.agg [s,t],gi e]):=.bf _ _ rfl fun i hi=>by
  match i,hi with
  | 0,_=>exact OI h1 h2
  | 1,_=>exact .val _
def jO:SC :=
  .seq (.seq (aq [aa 31 8,ao 32 2 1,an 33 32,ao 34 3 1,an 35 34,aa 36 5,aD 37 1 35 36,an 38 37,aD 39 1 33 38,an 40 39,aA 41 40,aC 42 .lss 31 41]) <|
  .cond (.tmp 42) (.skip) (.exit 2)) <|
  .seq (.block 3 (.seq (aq [ao 45 2 1,an 46 45,ao 47 3 1,an 48 47,aa 49 5,aD 50 1 48 49,an 51 50,aD 52 1 46 51,an 53 52,aa 54 8,aD 55 3 53 54,aF 56 3 55,((some 9),.op (.alloc [(.val (.int .i64 0)),(.val (.int .i64 0)),(.val (.int .i64 0))])),(none,.op (.store 3 (.tmp 9) (.tmp 56)))]) <|
  aq [aa 57 6,ao 58 0 9,an 59 58,ao 60 1 9,aF 61 2 60,aD 62 2 57 59,(none,.op (.store 2 (.tmp 62) (.tmp 61)))])) <|
  aq [aa 43 8,au 44 .add 43 1,aa 8 44]
def jY:SC :=
  .seq (.seq (aq [aa 63 10,aa 64 7,aA 65 64,aC 66 .lss 63 65]) <|
  .cond (.tmp 66) (.skip) (.exit 4)) <|
  .seq (.block 5 (aq [aa 69 7,aa 70 10,aD 71 1 69 70,(none,.op (.store 1 (.tmp 71) (.val (.val (.int .i64 (-1))))))])) <|
  aq [aa 67 10,au 68 .add 67 1,aa 10 68]
def jX:SC :=
  .seq (.seq (aq [aa 72 11,ao 73 4 1,an 74 73,ao 75 5 1,an 76 75,aa 77 5,aD 78 1 76 77,an 79 78,aD 80 1 74 79,an 81 80,aA 82 81,aC 83 .lss 72 82]) <|
  .cond (.tmp 83) (.skip) (.exit 6)) <|
  .seq (.block 7 (.seq (aq [ao 86 4 1,an 87 86,ao 88 5 1,an 89 88,aa 90 5,aD 91 1 89 90,an 92 91,aD 93 1 87 92,an 94 93,aa 95 11,aD 96 2 94 95,aF 97 2 96,((some 12),.op (.alloc [(.val (.int .i64 0)),(.val (.int .i64 0))])),(none,.op (.store 2 (.tmp 12) (.tmp 97)))]) <|
  aq [aa 98 7,ao 99 0 12,an 100 99,ao 101 1 12,an 102 101,aD 103 1 98 100,(none,.op (.store 1 (.tmp 103) (.tmp 102)))])) <|
  aq [aa 84 11,au 85 .add 84 1,aa 11 85]
def jW:SC :=
  .seq (.seq (aq [aa 17 5,ao 18 3 1,an 19 18,aA 20 19,aC 21 .lss 17 20]) <|
  .cond (.tmp 21) (.skip) (.exit 0)) <|
  .seq (.block 1 (.seq (aq [ao 24 0 1,an 25 24,au 26 .add 25 1,((some 27),.op (.make 2 16 [(.val (.int .i64 0)),(.val (.int .i64 0))] (.tmp 26) (.tmp 26))),aa 6 27]) <|
  .seq (aq [ao 28 1 1,an 29 28,((some 30),.op (.make 1 8 [(.val (.int .i64 0))] (.tmp 29) (.tmp 29))),aa 7 30]) <|
  .seq (.seq (aq [az 8 0]) <|
  .block 2 (.loop jO)) <|
  .seq (.seq (aq [az 10 0]) <|
  .block 4 (.loop jY)) <|
  .seq (.seq (aq [az 11 0]) <|
  .block 6 (.loop jX)) <|
  .nz [(109,105)] [⟨none,[ao 104 0 4,an 105 104,aa 106 6,((some 107),.op (.aT 1 1 [(.emp 1)] [(0,(.tmp 106))])),((some 108),.op (.app 1 24 (.tmp 105) (.tmp 107))),ao 109 1 4,an 110 109,aa 111 7,((some 112),.op (.aT 1 1 [(.emp 1)] [(0,(.tmp 111))])),((some 113),.op (.app 1 24 (.tmp 110) (.tmp 112))),ao 114 0 4,(none,.op (.store 1 (.tmp 114) (.tmp 108))),ao 115 1 4,(none,.op (.store 1 (.tmp 115) (.tmp 113)))]⟩])) <|
  aq [aa 22 5,au 23 .add 22 1,aa 5 23]
def lY:SF:=⟨.seq (aq [bz 1 0,((some 2),.op (.alloc [(.emp 1),(.emp 1)])),az 3 0]) <|
  .seq (.seq (aq [aF 13 6 1,aJ 14 94 [13],bC 15 14]) <|
  .cond (.tmp 15) (.seq (aq [((some 16),.op (.build [(.emp 1),(.emp 1)] [])),(none,.op (.store 2 (.tmp 2) (.tmp 16))),az 3 1]) <|
  .ret) (.skip)) <|
  .seq (aq [((some 4),.op (.alloc [(.emp 1),(.emp 1)]))]) <|
  .seq (.seq (aq [az 5 0]) <|
  .block 0 (.loop jW)) <|
  .seq (aq [aF 116 2 4,(none,.op (.store 2 (.tmp 2) (.tmp 116))),az 3 0]) <|
  .ret,
  [.cell 2 (some 2),.tmp 3],117⟩
theorem rj:ba Tryz.prog 50 [1,100000]=some lY:=by kernel_rfl
set_option maxHeartbeats 8000000 in
theorem GA (p:fp) (hp:p.Ok):bY Tryz.prog 50 [.agg (aZ p)] (.bf (if ez p=true then [.agg (aW (cm p)),gi 0] else [.agg (aW ⟨[],[]⟩),gi 1])):=by
  refine bY.of (yE p) ?_
  have hr:=JG p hp
  refine aG.of mixed rj ?_
  simp only[aZ,encI] at hr
  simp (disch:=omega) only [↓wr,↓reduceIte,wq,ah,ag,ak,ab,ae,af,ai,isNil,Nat.reduceEqDiff,Nat.reduceAdd,Nat.reduceLT,Nat.reduceLeDiff,Int.reduceNeg,Int.reduceToNat,reduceCtorEq,lY,aZ,encI]
  intro b2
  refine aN.pure hr (by kernel_rfl) ?_
  simp (disch:=omega) only [↓wr,↓reduceIte,wq,ah,ag,ak,ab,ae,af,ai,isNil,Nat.reduceEqDiff,Nat.reduceAdd,Nat.reduceLT,Nat.reduceLeDiff,Int.reduceNeg,Int.reduceToNat,reduceCtorEq]
  refine ar.split (fun hrt=>?_) (fun hrt=>?_)
  rotate_left
  · simp (disch:=omega) only [↓wr,↓reduceIte,wq,ah,ag,ak,ab,ae,af,ai,isNil,Nat.reduceEqDiff,Nat.reduceAdd,Nat.reduceLT,Nat.reduceLeDiff,Int.reduceNeg,Int.reduceToNat,reduceCtorEq]
    rw[hrt]
    intro h' _
    exact yT (.emp _) (.emp _)
  obtain ⟨⟨q1,q2,q3,q4,q5,q6,q7,q8,q9⟩,hof,hto,hrows,hgos⟩:=vg hrt
  rw[hrt]
  simp (disch:=omega) only [↓wr,↓reduceIte,wq,ah,ag,ak,ab,ae,af,ai,isNil,Nat.reduceEqDiff,Nat.reduceAdd,Nat.reduceLT,Nat.reduceLeDiff,Int.reduceNeg,Int.reduceToNat,reduceCtorEq]
  intro b4 hb4
  have d42:=(dq hb4 cU).1
  have o0:=(bA.nil.new (n:=b2) (H:=fun _=>bM.dead) rfl 2 [[.emp 1,.emp 1]])
  refine bp.up p.of.length (QQ p b4 b2) ⟨⟨.emp 1,.emp 1,[],[],by simp,by simp,?_⟩,rfl,rfl,rfl,rfl⟩ ?_
  · have o1:=o0.new hb4 2 [[.emp 1,.emp 1]]
    exact ((o1.emp (k:=1) (sz:=1)).emp (k:=1) (sz:=1)).perm B0.symm
  rintro i k T H hk ⟨⟨ua,ug,A,G,hA,hG,ho⟩,t1,t2,t4,t5⟩
  simp (disch:=omega) only [↓wr,↓reduceIte,wq,ah,ag,ak,ab,ae,af,ai,isNil,Nat.reduceEqDiff,Nat.reduceAdd,Nat.reduceLT,Nat.reduceLeDiff,Int.reduceNeg,Int.reduceToNat,reduceCtorEq,jW,t1,t2,t4,t5,aZ,encI]
  refine ar.dec (fun hc=>?_) (fun hc=>?_)
  · have hn:p.of[i]?=some (p.of[i]'(by omega)):=List.getElem?_eq_getElem (by omega)
    have hm:p.to[i]?=some (p.to[i]'(by omega)):=List.getElem?_eq_getElem (by omega)
    have hnr:=hof _ (List.mem_of_getElem? hn)
    have hmr:=hto _ (List.mem_of_getElem? hm)
    generalize p.of[i]'(by omega)=n at hn hnr
    generalize p.to[i]'(by omega)=m at hm hmr
    have hrow:p.rows[n.toNat]?=some (p.rows.getD n.toNat []):=getD_some (by omega)
    have hgo:p.gotos[m.toNat]?=some (p.gotos.getD m.toNat []):=getD_some (by omega)
    have hA2:(cm p).aK[i]?=some (eL (p.rows.getD n.toNat []) (List.replicate (p.av.toNat+1) (⟨0,0⟩:Cell))):=by simp[cm,hn]
    have hG2:(cm p).gotos[i]?=some (gv (p.gotos.getD m.toNat []) (List.replicate p.aw.toNat (-1))):=by simp[cm,hm]
    have hZ:(List.replicate (p.av.toNat+1) (⟨0,0⟩:Cell)).length=p.av.toNat+1:=by simp
    have hZ2:(List.replicate (p.av.toNat+1) (⟨0,0⟩:Cell)).map bo=List.replicate (p.av.toNat+1) [gi 0,gi 0]:=by simp[bo]
    generalize List.replicate (p.av.toNat+1) (⟨0,0⟩:Cell)=Z at hA2 hZ hZ2
    have hrin:=Aq (by omega) (hrows _ (List.mem_of_getElem? hrow))
    have hgin:=zZ (by omega) (hgos _ (List.mem_of_getElem? hgo))
    have hrl:=(hp.row _ (List.mem_of_getElem? hrow)).1
    have hgl:=(hp.go _ (List.mem_of_getElem? hgo)).1
    unfold aR at hrl hgl
    generalize p.rows.getD n.toNat []=row at hrow hA2 hrin hrl
    generalize p.gotos.getD m.toNat []=gor at hgo hG2 hgin hgl
    simp (disch:=omega) only [↓wr,↓reduceIte,wq,ah,ag,ak,ab,ae,af,ai,isNil,Nat.reduceEqDiff,Nat.reduceAdd,Nat.reduceLT,Nat.reduceLeDiff,Int.reduceNeg,Int.reduceToNat,reduceCtorEq,t1,t2,t4,t5,aZ,encI]
    refine ⟨⟨by omega,by unfold aP; omega,by unfold aP; omega⟩,fun h=>absurd h (by omega),fun _ na hna=>?_⟩
    have o1:=ho.new hna 2 (List.replicate (p.av+1).toNat [gi 0,gi 0])
    rw[List.length_replicate] at o1
    refine ⟨⟨by omega,by unfold aP; omega,by unfold aP; omega⟩,fun h0=>?_,fun h0 ng hng=>?_⟩
    have o2:=(o1.emp (k:=2) (sz:=1)).as (es':=bb (List.replicate p.aw.toNat 0)) (by rw[h0]; rfl)
    generalize V.emp 2=u7 at o2 ⊢
    generalize H.set na (.arr 2 (List.replicate (p.av+1).toNat [gi 0,gi 0]))=HH at o2 ⊢
    rotate_left
    have o2:=o1.new hng 1 (List.replicate p.aw.toNat [gi 0])
    rw[List.length_replicate] at o2
    have o2:=o2.as (es':=bb (List.replicate p.aw.toNat 0)) (by simp[bb])
    generalize V.sl ng 0 p.aw.toNat 1=u7 at o2 ⊢
    generalize (H.set na (.arr 2 (List.replicate (p.av+1).toNat [gi 0,gi 0]))).set ng (.arr 1 (List.replicate p.aw.toNat [gi 0]))=HH at o2 ⊢
    all_goals (
      rw[show (p.av+1).toNat=p.av.toNat+1 by omega,show List.replicate (p.av.toNat+1) [gi 0,gi 0]=(eL (row.take 0) Z).map bo by rw[← hZ2]; rfl] at o2
      rw[show (p.av+1).toNat=p.av.toNat+1 by omega]
      generalize hB:(((.sl b4 0 1 2,2,[[ua,ug]]) :: (ua,1,dL A) :: (ug,1,dL G) :: (.sl b2 0 1 2,2,[[.emp 1,.emp 1]]) :: (zf A ++ zg G)):List e9)=B at o2
      refine bp.up row.length (fun j T H'=>bA H' ((u7,1,bb (List.replicate p.aw.toNat 0)) :: (.sl na 0 (p.av.toNat+1) 2,2,(eL (row.take j) Z).map bo) :: B)∧T 1=.aQ (aZ p) 0∧T 2=.ptr b2 0 0∧T 4=.ptr b4 0 0∧T 5=gi i∧T 6=.sl na 0 (p.av.toNat+1) 2∧T 7=u7∧T 8=gi j) ⟨o2,t1,t2,t4,t5,rfl,rfl,rfl⟩ ?_
      clear o2 o1 ho
      rintro j k2 T2 H2 hk2 ⟨o2,t1,t2,t4,t5,t6,t7,t8⟩
      simp (disch:=omega) only [↓wr,↓reduceIte,wq,ah,ag,ak,ab,ae,af,ai,isNil,Nat.reduceEqDiff,Nat.reduceAdd,Nat.reduceLT,Nat.reduceLeDiff,Int.reduceNeg,Int.reduceToNat,reduceCtorEq,jO,t1,t2,t4,t5,t6,t7,t8,aZ,encI,List.getElem?_map,hn,hrow,Option.map_some]
      refine ar.dec (fun hc2=>?_) (fun hc2=>?_)
      · have hx:row[j]?=some (row[j]'(by omega)):=List.getElem?_eq_getElem (by omega)
        have hxr:=hrin _ (List.mem_of_getElem? hx)
        generalize row[j]'(by omega)=x at hx hxr
        simp (disch:=omega) only [↓wr,↓reduceIte,wq,ah,ag,ak,ab,ae,af,ai,isNil,Nat.reduceEqDiff,Nat.reduceAdd,Nat.reduceLT,Nat.reduceLeDiff,Int.reduceNeg,Int.reduceToNat,reduceCtorEq,t1,t2,t4,t5,t6,t7,t8,aZ,encI,List.getElem?_map,hn,hrow,hx,Option.map_some,ep]
        have hna2:=o2.is 1 rfl (by simp[iZ,hZ])
        intro b hb
        have hbn:¬ na=b:=by rintro rfl; rw[hna2] at hb; simp at hb
        refine ⟨by omega,?_⟩
        simp (disch:=omega) only [↓wr,↓reduceIte,wq,ah,ag,ak,ab,ae,af,ai,isNil,Nat.reduceEqDiff,Nat.reduceAdd,Nat.reduceLT,Nat.reduceLeDiff,Int.reduceNeg,Int.reduceToNat,reduceCtorEq,t1,t2,t4,t5,t6,t7,t8,hbn,hna2,List.length_map,iZ,hZ]
        refine ⟨by omega,?_⟩
        rw[set_set]
        refine br hk2 (by omega) ⟨?_,t1,t2,t4,t5,t6,t7,rfl⟩
        rw[BQ hx]
        rw[CJ]
        have o3:=(((o2.fresh hb (o:=.arr 3 [[gi x.dA,gi x.cell.kind,gi x.cell.n]])).perm (.swap _ _ _)).put (es':=((eL (row.take j) Z).map bo).set x.dA.toNat (bo x.cell)) (by simp) (by simp[iZ,hZ])).perm (.swap _ _ _)
        exact o3.QT (es':=((eL (row.take j) Z).set x.dA.toNat x.cell).map bo) (by rw[List.map_set])
      · rw[List.take_of_length_le (by omega)] at o2
        simp (disch:=omega) only [↓wr,↓reduceIte,wq,ah,ag,ak,ab,ae,af,ai,isNil,Nat.reduceEqDiff,Nat.reduceAdd,Nat.reduceLT,Nat.reduceLeDiff,Int.reduceNeg,Int.reduceToNat,reduceCtorEq,t1,t2,t4,t5,t6,t7,t8]
        refine bp.up p.aw.toNat (fun j T H'=>bA H' ((u7,1,bb (List.replicate j (-1) ++ List.replicate (p.aw.toNat - j) 0)) :: (.sl na 0 (p.av.toNat+1) 2,2,(eL row Z).map bo) :: B)∧T 1=.aQ (aZ p) 0∧T 2=.ptr b2 0 0∧T 4=.ptr b4 0 0∧T 5=gi i∧T 6=.sl na 0 (p.av.toNat+1) 2∧T 7=u7∧T 10=gi j) ⟨by simpa using o2,t1,t2,t4,t5,t6,t7,rfl⟩ ?_
        clear o2
        rintro j3 k3 T3 H3 hk3 ⟨o2,t1,t2,t4,t5,t6,t7,t8⟩
        have hl7:=o2.head.len
        simp only[List.length_map,List.length_append,List.length_replicate,show j3+(p.aw.toNat - j3)=p.aw.toNat by omega] at hl7
        simp (disch:=omega) only [↓wr,↓reduceIte,wq,ah,ag,ak,ab,ae,af,ai,isNil,Nat.reduceEqDiff,Nat.reduceAdd,Nat.reduceLT,Nat.reduceLeDiff,Int.reduceNeg,Int.reduceToNat,reduceCtorEq,jY,t1,t2,t4,t5,t6,t7,t8,hl7]
        refine ar.dec (fun hc3=>?_) (fun hc3=>?_)
        · obtain ⟨id,hu,hid⟩:=o2.head.sl (by simp; omega)
          simp only[List.length_map,List.length_append,List.length_replicate,show j3+(p.aw.toNat - j3)=p.aw.toNat by omega] at hu
          subst hu
          simp (disch:=omega) only [↓wr,↓reduceIte,wq,ah,ag,ak,ab,ae,af,ai,isNil,Nat.reduceEqDiff,Nat.reduceAdd,Nat.reduceLT,Nat.reduceLeDiff,Int.reduceNeg,Int.reduceToNat,reduceCtorEq,t1,t2,t4,t5,t6,t7,t8,hid]
          refine ⟨by omega,by simp; omega,br hk3 (by omega) ⟨?_,t1,t2,t4,t5,t6,t7,rfl⟩⟩
          rw[← Mw _ _ (by omega),Ak]
          refine bA.as (es:=(bb (List.replicate j3 (-1) ++ List.replicate (p.aw.toNat - j3) 0)).set j3 [gi (-1)]) ?_ (by simp only[bb,List.map_set])
          exact o2.put (es':=(bb (List.replicate j3 (-1) ++ List.replicate (p.aw.toNat - j3) 0)).set j3 [gi (-1)]) (by simp) (by simp; omega)
        · have o3:=o2.as (es':=bb (List.replicate p.aw.toNat (-1))) (by rw[show j3=p.aw.toNat by omega]; simp)
          clear o2
          have hY:(List.replicate p.aw.toNat (-1:Int)).length=p.aw.toNat:=by simp
          generalize List.replicate p.aw.toNat (-1:Int)=Y at hG2 hY o3
          simp (disch:=omega) only [↓wr,↓reduceIte,wq,ah,ag,ak,ab,ae,af,ai,isNil,Nat.reduceEqDiff,Nat.reduceAdd,Nat.reduceLT,Nat.reduceLeDiff,Int.reduceNeg,Int.reduceToNat,reduceCtorEq,t1,t2,t4,t5,t6,t7,t8]
          refine bp.up gor.length (fun j T H'=>bA H' ((u7,1,bb (gv (gor.take j) Y)) :: (.sl na 0 (p.av.toNat+1) 2,2,(eL row Z).map bo) :: B)∧T 1=.aQ (aZ p) 0∧T 2=.ptr b2 0 0∧T 4=.ptr b4 0 0∧T 5=gi i∧T 6=.sl na 0 (p.av.toNat+1) 2∧T 7=u7∧T 11=gi j) ⟨o3,t1,t2,t4,t5,t6,t7,rfl⟩ ?_
          clear o3 hc3 hl7
          rintro j4 k4 T4 H4 hk4 ⟨o2,t1,t2,t4,t5,t6,t7,t8⟩
          simp (disch:=omega) only [↓wr,↓reduceIte,wq,ah,ag,ak,ab,ae,af,ai,isNil,Nat.reduceEqDiff,Nat.reduceAdd,Nat.reduceLT,Nat.reduceLeDiff,Int.reduceNeg,Int.reduceToNat,reduceCtorEq,jX,t1,t2,t4,t5,t6,t7,t8,aZ,encI,List.getElem?_map,hm,hgo,Option.map_some]
          refine ar.dec (fun hc4=>?_) (fun hc4=>?_)
          · have hx:gor[j4]?=some (gor[j4]'(by omega)):=List.getElem?_eq_getElem (by omega)
            have hxr:=hgin _ (List.mem_of_getElem? hx)
            generalize gor[j4]'(by omega)=x at hx hxr
            obtain ⟨id,hu,hid⟩:=o2.head.sl (by simp[fU,hY]; omega)
            simp only[List.length_map,fU,hY] at hu
            subst hu
            simp (disch:=omega) only [↓wr,↓reduceIte,wq,ah,ag,ak,ab,ae,af,ai,isNil,Nat.reduceEqDiff,Nat.reduceAdd,Nat.reduceLT,Nat.reduceLeDiff,Int.reduceNeg,Int.reduceToNat,reduceCtorEq,t1,t2,t4,t5,t6,t7,t8,aZ,encI,List.getElem?_map,hm,hgo,hx,Option.map_some,en]
            intro b hb
            have hbn:¬ id=b:=by rintro rfl; rw[hid] at hb; simp at hb
            refine ⟨by omega,?_⟩
            simp (disch:=omega) only [↓wr,↓reduceIte,wq,ah,ag,ak,ab,ae,af,ai,isNil,Nat.reduceEqDiff,Nat.reduceAdd,Nat.reduceLT,Nat.reduceLeDiff,Int.reduceNeg,Int.reduceToNat,reduceCtorEq,t1,t2,t4,t5,t6,t7,t8,hbn,hid,List.length_map,fU,hY]
            refine ⟨by omega,?_⟩
            rw[set_set]
            refine br hk4 (by omega) ⟨?_,t1,t2,t4,t5,t6,t7,rfl⟩
            rw[BM hx,Ak]
            have o3:=(o2.fresh hb (o:=.arr 2 [[gi x.sym,gi x.to]])).put (es':=(bb (gv (gor.take j4) Y)).set x.sym.toNat [gi x.to]) (by simp) (by simp[fU,hY])
            exact o3.as (es':=bb ((gv (gor.take j4) Y).set x.sym.toNat x.to)) (by simp only[bb,List.map_set])
          · rw[List.take_of_length_le (by omega)] at o2
            have c7:=o2.head.cells
            have k7:=o2.head.jC
            subst hB
            have hb4:=o2.is 2 rfl (by simp)
            simp (disch:=omega) only [↓wr,↓reduceIte,wq,ah,ag,ak,ab,ae,af,ai,isNil,Nat.reduceEqDiff,Nat.reduceAdd,Nat.reduceLT,Nat.reduceLeDiff,Int.reduceNeg,Int.reduceToNat,reduceCtorEq,t1,t2,t4,t5,t6,t7,t8,c7,k7,hb4]
            intro q hq
            have lA:=congrArg List.length hA
            have lG:=congrArg List.length hG
            simp only[List.length_map,List.length_take] at lA lG
            simp (disch:=omega) only [↓wr,↓reduceIte,wq,ah,ag,ak,ab,ae,af,ai,isNil,Nat.reduceEqDiff,Nat.reduceAdd,Nat.reduceLT,Nat.reduceLeDiff,Int.reduceNeg,Int.reduceToNat,reduceCtorEq,cn]
            have o4:=(o2.fresh (o:=.arr 1 [[.sl na 0 (p.av.toNat+1) 2]]) hq).at 3 (by simp)
            refine eQ o4 (by simp[aU]) (by unfold aP dL; simp; omega) (by unfold aP dL; simp; omega) ?_
            intro ua2 H5 o5 _
            simp only[List.getElem_cons_succ,List.getElem_cons_zero,List.eraseIdx_cons_succ,List.eraseIdx_cons_zero] at o5
            have hb5:=o5.is 3 rfl (by simp)
            simp (disch:=omega) only [↓wr,↓reduceIte,wq,ah,ag,ak,ab,ae,af,ai,isNil,Nat.reduceEqDiff,Nat.reduceAdd,Nat.reduceLT,Nat.reduceLeDiff,Int.reduceNeg,Int.reduceToNat,reduceCtorEq,t1,t2,t4,t5,t6,t7,t8,c7,k7,hb5]
            intro q2 hq2
            simp (disch:=omega) only [↓wr,↓reduceIte,wq,ah,ag,ak,ab,ae,af,ai,isNil,Nat.reduceEqDiff,Nat.reduceAdd,Nat.reduceLT,Nat.reduceLeDiff,Int.reduceNeg,Int.reduceToNat,reduceCtorEq,cn]
            have o6:=(o5.fresh (o:=.arr 1 [[u7]]) hq2).at 4 (by simp)
            refine eQ o6 (by simp[k7]) (by unfold aP dL; simp; omega) (by unfold aP dL; simp; omega) ?_
            intro ug2 H6 o7 _
            simp only[List.getElem_cons_succ,List.getElem_cons_zero,List.eraseIdx_cons_succ,List.eraseIdx_cons_zero] at o7
            have hb7:=o7.is 4 rfl (by simp)
            have ca:=(o7.own 1 rfl).cells
            have ka:=(o7.own 1 rfl).jC
            have cg:=(o7.own 0 rfl).cells
            have kg:=(o7.own 0 rfl).jC
            simp (disch:=omega) only [↓wr,↓reduceIte,wq,ah,ag,ak,ab,ae,af,ai,isNil,Nat.reduceEqDiff,Nat.reduceAdd,Nat.reduceLT,Nat.reduceLeDiff,Int.reduceNeg,Int.reduceToNat,reduceCtorEq,t1,t2,t4,t5,t6,t7,t8,ca,ka,cg,kg,hb7]
            refine ⟨Hr (o2.own 3 rfl) ((o2.at 2 (by simp)).off rfl _ (List.mem_of_getElem? (i:=2) rfl)),?_⟩
            rw[set_set]
            refine br hk (by omega) ⟨⟨ua2,ug2,A ++ [(.sl na 0 (p.av.toNat+1) 2,eL row Z)],G ++ [(u7,gv gor Y)],?_,?_,?_⟩,t1,t2,t4,rfl⟩
            · rw[List.map_append,hA,List.take_add_one,hA2]; rfl
            · rw[List.map_append,hG,List.take_add_one,hG2]; rfl
            · have o8:=(o7.at 4 (by simp)).put (es':=[[ua2,ug2]]) rfl rfl
              simp only[List.getElem_cons_succ,List.getElem_cons_zero,List.eraseIdx_cons_succ,List.eraseIdx_cons_zero] at o8
              refine o8.perm (.cons _ ((List.Perm.swap _ _ _).trans ?_))
              simp only[dL,zf,zg,List.map_append,List.map_cons,List.map_nil]
              exact .cons _ (.cons _ OZ))
  · rw[List.take_of_length_le (by simp[cm]; omega)] at hA hG
    have hb4:=ho.is 0 rfl (by simp)
    have hb2:=ho.is 3 rfl (by simp)
    have ca:=(ho.own 1 rfl).cells
    have ka:=(ho.own 1 rfl).jC
    have cg:=(ho.own 2 rfl).cells
    have kg:=(ho.own 2 rfl).jC
    simp (disch:=omega) only [↓wr,↓reduceIte,wq,ah,ag,ak,ab,ae,af,ai,isNil,Nat.reduceEqDiff,Nat.reduceAdd,Nat.reduceLT,Nat.reduceLeDiff,Int.reduceNeg,Int.reduceToNat,reduceCtorEq,t1,t2,t4,t5,hb4,hb2,ca,ka,cg,kg]
    intro h' hv
    have o9:=(ho.at 3 (by simp)).put (es':=[[ua,ug]]) rfl rfl
    simp only[List.getElem_cons_succ,List.getElem_cons_zero,List.eraseIdx_cons_succ,List.eraseIdx_cons_zero] at o9
    rw[← hv] at o9
    unfold aW
    rw[← hA,← hG]
    refine yT (CZ (o9.own 2 rfl) fun x hx=>o9.1 (x.1,2,x.2.map bo) ?_) (ie.Nz ⟨G,rfl,o9.own 3 rfl,fun x hx=>o9.1 (x.1,1,bb x.2) ?_⟩)
    · simp only[List.mem_cons,List.mem_append]
      exact .inr (.inr (.inr (.inr (.inl (List.mem_map.2 ⟨x,hx,rfl⟩)))))
    · simp only[List.mem_cons,List.mem_append]
      exact .inr (.inr (.inr (.inr (.inr (List.mem_map.2 ⟨x,hx,rfl⟩)))))
def qA:SF:=⟨.seq (aq [aM 3 false]) <|
  .seq (.region false [⟨none,[aa 4 0,au 5 .lss 4 0,aa 6 5]⟩,⟨(some (6,false)),[aa 7 0,an 8 1,aC 9 .geq 7 8]⟩,⟨none,[aS 10 6 9,aa 3 10]⟩]) <|
  .ret,
  [.tmp 3],11⟩
theorem xl:ba Tryz.prog 194 []=some qA:=by kernel_rfl
def tx:SF:=⟨.seq (aq [bz 3 1,aM 4 false]) <|
  .seq (aq [aa 5 0,((some 6),.op (.qx 194 [] [(.tmp 3)])),aJ 7 46 [5,6],bC 8 7,aa 4 8]) <|
  .ret,
  [.tmp 4],9⟩
theorem zj:ba Tryz.prog 144 [3]=some tx:=by kernel_rfl
def tP:SF:=⟨.seq (aq [bz 1 0,az 2 0]) <|
  .seq (aq [ao 3 0 1,an 4 3,aa 2 4]) <|
  .ret,
  [.tmp 2],5⟩
theorem zr:ba Tryz.prog 146 [1]=some tP:=by kernel_rfl
def uo:SF:=⟨.seq (aq [bz 1 0,aM 2 false]) <|
  .seq (aq [ao 3 1 1,aF 4 2 3,((some 5),.op (.build [(.val (.int .i64 0)),(.val (.int .i64 0))] [])),((some 6),.op (.old (.binOp .eql 84 (.tmp 4) (.tmp 5) 84) 4)),aa 2 6]) <|
  .ret,
  [.tmp 2],7⟩
theorem zq:ba Tryz.prog 148 [1]=some uo:=by kernel_rfl
def uW:SF:=⟨.seq (aq [bz 1 0,az 2 0]) <|
  .seq (aq [ao 3 0 1,an 4 3,aa 2 4]) <|
  .ret,
  [.tmp 2],5⟩
theorem zp:ba Tryz.prog 150 [1]=some uW:=by kernel_rfl
def tC:SF:=⟨.seq (aq [bz 1 0,aM 2 false]) <|
  .seq (aq [ao 3 1 1,an 4 3,au 5 .eql 4 (-1),aa 2 5]) <|
  .ret,
  [.tmp 2],6⟩
theorem zi:ba Tryz.prog 152 [1]=some tC:=by kernel_rfl
def gZ:SC :=
  .seq (aq [aC 13 .lss 12 11]) <|
  .seq (.cond (.tmp 13) (.skip) (.exit 0)) <|
  .seq (.block 1 (.seq (aq [aD 14 3 10 12,aF 15 3 14,((some 9),.op (.alloc [(.val (.int .i64 0)),(.val (.int .i64 0)),(.val (.int .i64 0))])),(none,.op (.store 3 (.tmp 9) (.tmp 15)))]) <|
  .seq (.seq (.region false [⟨none,[aa 16 2,aF 17 3 9,((some 18),.call (.tmp 16) [(.tmp 17)]),aa 19 7,aC 20 .leq 18 19,aa 21 20]⟩,⟨(some (21,false)),[aa 22 2,aF 23 3 9,((some 24),.call (.tmp 22) [(.tmp 23)]),aa 25 1,aC 26 .geq 24 25]⟩,⟨none,[aS 27 21 26]⟩]) <|
  .cond (.tmp 27) (.seq (aq [aM 6 false]) <|
  .ret) (.skip)) <|
  aq [aa 28 2,aF 29 3 9,((some 30),.call (.tmp 28) [(.tmp 29)]),aa 7 30])) <|
  aq [au 31 .add 12 1,aa 12 31]
def jb:SF:=⟨.seq (aq [aM 6 false]) <|
  .seq (aq [az 7 (-1)]) <|
  .seq (.seq (aq [aa 10 0,aA 11 10,az 12 0]) <|
  .block 0 (.loop gZ)) <|
  .seq (aq [aM 6 true]) <|
  .ret,
  [.tmp 6],32⟩
theorem oH:ba Tryz.prog 145 []=some jb:=by kernel_rfl
def ik:SC :=
  .seq (aq [aC 13 .lss 12 11]) <|
  .seq (.cond (.tmp 13) (.skip) (.exit 0)) <|
  .seq (.block 1 (.seq (aq [aD 14 2 10 12,aF 15 2 14,((some 9),.op (.alloc [(.val (.int .i64 0)),(.val (.int .i64 0))])),(none,.op (.store 2 (.tmp 9) (.tmp 15)))]) <|
  .seq (.seq (.region false [⟨none,[aa 16 2,aF 17 2 9,((some 18),.call (.tmp 16) [(.tmp 17)]),aa 19 7,aC 20 .leq 18 19,aa 21 20]⟩,⟨(some (21,false)),[aa 22 2,aF 23 2 9,((some 24),.call (.tmp 22) [(.tmp 23)]),aa 25 1,aC 26 .geq 24 25]⟩,⟨none,[aS 27 21 26]⟩]) <|
  .cond (.tmp 27) (.seq (aq [aM 6 false]) <|
  .ret) (.skip)) <|
  aq [aa 28 2,aF 29 2 9,((some 30),.call (.tmp 28) [(.tmp 29)]),aa 7 30])) <|
  aq [au 31 .add 12 1,aa 12 31]
def jB:SF:=⟨.seq (aq [aM 6 false]) <|
  .seq (aq [az 7 (-1)]) <|
  .seq (.seq (aq [aa 10 0,aA 11 10,az 12 0]) <|
  .block 0 (.loop ik)) <|
  .seq (aq [aM 6 true]) <|
  .ret,
  [.tmp 6],32⟩
theorem oX:ba Tryz.prog 149 []=some jB:=by kernel_rfl
def u5:SC :=
  .seq (aq [aC 78 .lss 77 76]) <|
  .seq (.cond (.tmp 78) (.skip) (.exit 1)) <|
  .seq (.block 2 (.seq (aq [aD 79 1 75 77,an 80 79,aa 4 80]) <|
  .seq (.region false [⟨none,[aa 81 4,ao 82 0 1,an 83 82,au 84 .add 83 1,b6 85 145 [(.tmp 81),(.tmp 84),(.val (.fn 146 [] []))],bC 86 85,aa 87 86]⟩,⟨(some (87,false)),[aa 88 4,b6 89 147 [(.tmp 88),(.val (.fn 148 [] []))]]⟩,⟨none,[aS 90 87 89]⟩]) <|
  .cond (.tmp 90) (.seq (aq [aM 2 false]) <|
  .ret) (.skip))) <|
  aq [au 91 .add 77 1,aa 77 91]
def vd:SC :=
  .seq (aq [aC 96 .lss 95 94]) <|
  .seq (.cond (.tmp 96) (.skip) (.exit 3)) <|
  .seq (.block 4 (.seq (aq [aD 97 1 93 95,an 98 97,aa 6 98]) <|
  .seq (.region false [⟨none,[aa 99 6,ao 100 1 1,an 101 100,b6 102 149 [(.tmp 99),(.tmp 101),(.val (.fn 150 [] []))],bC 103 102,aa 104 103]⟩,⟨(some (104,false)),[aa 105 6,b6 106 151 [(.tmp 105),(.val (.fn 152 [] []))]]⟩,⟨none,[aS 107 104 106]⟩]) <|
  .cond (.tmp 107) (.seq (aq [aM 2 false]) <|
  .ret) (.skip))) <|
  aq [au 108 .add 95 1,aa 95 108]
def yz:SF:=⟨.seq (aq [bz 1 0,aM 2 false]) <|
  .seq (.block 0 (.seq (.region false [⟨none,[ao 8 0 1,an 9 8,au 10 .lss 9 0,aa 11 10]⟩,⟨(some (11,false)),[ao 12 0 1,an 13 12,au 14 .gtr 13 24]⟩,⟨none,[aS 15 11 14,aa 16 15]⟩,⟨(some (16,false)),[ao 17 1 1,an 18 17,au 19 .lss 18 0]⟩,⟨none,[aS 20 16 19,aa 21 20]⟩,⟨(some (21,false)),[ao 22 1 1,an 23 22,au 24 .gtr 23 16]⟩,⟨none,[aS 25 21 24,aa 7 25]⟩]) <|
  .cond (.tmp 7) (.seq (aq [aM 2 false]) <|
  .ret) (.seq (.region false [⟨none,[ao 27 3 1,an 28 27,aA 29 28,au 30 .lss 29 1,aa 31 30]⟩,⟨(some (31,false)),[ao 32 3 1,an 33 32,aA 34 33,au 35 .gtr 34 300]⟩,⟨none,[aS 36 31 35,aa 37 36]⟩,⟨(some (37,false)),[ao 38 5 1,an 39 38,aA 40 39,ao 41 3 1,an 42 41,aA 43 42,aC 44 .neq 40 43]⟩,⟨none,[aS 45 37 44,aa 26 45]⟩]) <|
  .cond (.tmp 26) (.seq (aq [aM 2 false]) <|
  .ret) (.seq (.region false [⟨none,[ao 47 2 1,an 48 47,aA 49 48,au 50 .gtr 49 300,aa 51 50]⟩,⟨(some (51,false)),[ao 52 4 1,an 53 52,aA 54 53,au 55 .gtr 54 300]⟩,⟨none,[aS 56 51 55,aa 46 56]⟩]) <|
  .cond (.tmp 46) (.seq (aq [aM 2 false]) <|
  .ret) (.seq (.region false [⟨none,[ao 58 3 1,an 59 58,ao 60 2 1,an 61 60,aA 62 61,aJ 63 144 [59,62],bC 64 63,aa 65 64]⟩,⟨(some (65,false)),[ao 66 5 1,an 67 66,ao 68 4 1,an 69 68,aA 70 69,aJ 71 144 [67,70],bC 72 71]⟩,⟨none,[aS 73 65 72,aa 57 73]⟩]) <|
  .cond (.tmp 57) (.seq (aq [aM 2 false]) <|
  .ret) (.skip)))))) <|
  .seq (.seq (aq [ao 74 2 1,an 75 74,aA 76 75,az 77 0]) <|
  .block 1 (.loop u5)) <|
  .seq (.seq (aq [ao 92 4 1,an 93 92,aA 94 93,az 95 0]) <|
  .block 3 (.loop vd)) <|
  .seq (aq [aM 2 true]) <|
  .ret,
  [.tmp 2],109⟩
theorem AJ:ba Tryz.prog 92 [1]=some yz:=by kernel_rfl
def dz:SC :=
  .seq (aq [aC 9 .lss 8 7]) <|
  .seq (.cond (.tmp 9) (.skip) (.exit 0)) <|
  .seq (.block 1 (.seq (aq [aa 10 8,aa 5 10]) <|
  .seq (aq [aa 11 1,aa 12 0,aa 13 5,aD 14 3 12 13,aF 15 3 14,((some 16),.call (.tmp 11) [(.tmp 15)])]) <|
  .cond (.tmp 16) (.seq (aq [aa 17 5,aa 4 17]) <|
  .ret) (.skip))) <|
  aq [au 18 .add 8 1,aa 8 18]
def dS:SF:=⟨.seq (aq [az 4 0]) <|
  .seq (.seq (aq [aa 6 0,aA 7 6,az 8 0]) <|
  .block 0 (.loop dz)) <|
  .seq (aq [az 4 (-1)]) <|
  .ret,
  [.tmp 4],19⟩
theorem fZ:ba Tryz.prog 195 []=some dS:=by kernel_rfl
def du:SF:=⟨.seq (aq [aM 4 false]) <|
  .seq (aq [aa 5 0,aa 6 1,aJ 7 195 [5,6],au 8 .geq 7 0,aa 4 8]) <|
  .ret,
  [.tmp 4],9⟩
theorem fI:ba Tryz.prog 147 []=some du:=by kernel_rfl
set_option maxHeartbeats 2000000 in
theorem GF (l:List gz) (hl:aR l) (f:FuncId) (cap:List V) (p:gz→Bool) (H:View) (hf:∀ x∈l,aG Tryz.prog f (.agg (ep x) :: cap) H fun r H'=>r=gb (p x)∧H'=H) :
    aG Tryz.prog 195 [.aL (l.map fun x=>ep x),.fn f [] cap] H fun r H'=>r=gi (bR p l 0)∧H'=H:=by
  refine aG.of mixed fZ ?_
  unfold aR at hl
  simp (disch:=omega) only [↓wr,↓reduceIte,wq,ah,ag,ak,ab,ae,af,ai,isNil,Nat.reduceEqDiff,Nat.reduceAdd,Nat.reduceLT,Nat.reduceLeDiff,Int.reduceNeg,Int.reduceToNat,reduceCtorEq,dS]
  refine bp.up l.length (fun i T H'=>H=H'∧bR p (l.drop i) i=bR p l 0∧T 0=.aL (l.map fun x=>ep x)∧T 1=.fn f [] cap∧T 7=gi l.length∧T 8=gi i) ⟨rfl,rfl,rfl,rfl,rfl,rfl⟩ ?_
  rintro i k T _ hk ⟨rfl,hi,h0,h1,h7,h8⟩
  simp (disch:=omega) only [↓wr,↓reduceIte,wq,ah,ag,ak,ab,ae,af,ai,isNil,Nat.reduceEqDiff,Nat.reduceAdd,Nat.reduceLT,Nat.reduceLeDiff,Int.reduceNeg,Int.reduceToNat,reduceCtorEq,dz,h0,h1,h7,h8]
  refine ar.dec (fun hc=>?_) (fun hc=>?_)
  · have hg:l[i]?=some (l[i]'(by omega)):=List.getElem?_eq_getElem (by omega)
    have hm:l[i]'(by omega)∈l:=List.getElem_mem _
    rw[c9 (show i < l.length by omega)] at hi
    generalize l[i]'(by omega)=x at hg hm hi
    simp (disch:=omega) only [↓wr,↓reduceIte,wq,ah,ag,ak,ab,ae,af,ai,isNil,Nat.reduceEqDiff,Nat.reduceAdd,Nat.reduceLT,Nat.reduceLeDiff,Int.reduceNeg,Int.reduceToNat,reduceCtorEq,h0,h1,h7,h8,List.getElem?_map,hg,Option.map_some,ep]
    have hcall:=hf x hm
    simp only[ep] at hcall
    refine aN.ig (hcall.mono ?_)
    rintro r H2 ⟨rfl,rfl⟩
    simp only[bR] at hi
    simp (disch:=omega) only [↓wr,↓reduceIte,wq,ah,ag,ak,ab,ae,af,ai,isNil,Nat.reduceEqDiff,Nat.reduceAdd,Nat.reduceLT,Nat.reduceLeDiff,Int.reduceNeg,Int.reduceToNat,reduceCtorEq]
    refine ar.split (fun hp=>?_) (fun hp=>?_)
    · simp (disch:=omega) only [↓wr,↓reduceIte,wq,ah,ag,ak,ab,ae,af,ai,isNil,Nat.reduceEqDiff,Nat.reduceAdd,Nat.reduceLT,Nat.reduceLeDiff,Int.reduceNeg,Int.reduceToNat,reduceCtorEq,h0,h1,h7,h8]
      rw[← hi,if_pos hp]
    · simp (disch:=omega) only [↓wr,↓reduceIte,wq,ah,ag,ak,ab,ae,af,ai,isNil,Nat.reduceEqDiff,Nat.reduceAdd,Nat.reduceLT,Nat.reduceLeDiff,Int.reduceNeg,Int.reduceToNat,reduceCtorEq,h0,h1,h7,h8]
      refine br hk (by omega) ⟨rfl,?_,h0,h1,h7,rfl⟩
      rw[if_neg (by simp[hp])] at hi
      push_cast; exact hi
  · rw[List.drop_eq_nil_of_le (by omega)] at hi
    simp (disch:=omega) only [↓wr,↓reduceIte,wq,ah,ag,ak,ab,ae,af,ai,isNil,Nat.reduceEqDiff,Nat.reduceAdd,Nat.reduceLT,Nat.reduceLeDiff,Int.reduceNeg,Int.reduceToNat,reduceCtorEq,h0,h1,h7,h8]
    rw[← hi]; rfl
theorem Cf (l:List gz) (hl:aR l) (f:FuncId) (cap:List V) (p:gz→Bool) (H:View) (hf:∀ x∈l,aG Tryz.prog f (.agg (ep x) :: cap) H fun r H'=>r=gb (p x)∧H'=H) :
    aG Tryz.prog 147 [.aL (l.map fun x=>ep x),.fn f [] cap] H fun r H'=>r=gb (l.any p)∧H'=H:=by
  refine aG.of mixed fI ?_
  simp (disch:=omega) only [↓wr,↓reduceIte,wq,ah,ag,ak,ab,ae,af,ai,isNil,Nat.reduceEqDiff,Nat.reduceAdd,Nat.reduceLT,Nat.reduceLeDiff,Int.reduceNeg,Int.reduceToNat,reduceCtorEq,du]
  refine aN.ig ((GF l hl f cap p H hf).mono ?_)
  rintro r H2 ⟨rfl,rfl⟩
  simp (disch:=omega) only [↓wr,↓reduceIte,wq,ah,ag,ak,ab,ae,af,ai,isNil,Nat.reduceEqDiff,Nat.reduceAdd,Nat.reduceLT,Nat.reduceLeDiff,Int.reduceNeg,Int.reduceToNat,reduceCtorEq]
  rw[← iK _ l 0 (by omega)]
def dT:SC :=
  .seq (aq [aC 9 .lss 8 7]) <|
  .seq (.cond (.tmp 9) (.skip) (.exit 0)) <|
  .seq (.block 1 (.seq (aq [aa 10 8,aa 5 10]) <|
  .seq (aq [aa 11 1,aa 12 0,aa 13 5,aD 14 2 12 13,aF 15 2 14,((some 16),.call (.tmp 11) [(.tmp 15)])]) <|
  .cond (.tmp 16) (.seq (aq [aa 17 5,aa 4 17]) <|
  .ret) (.skip))) <|
  aq [au 18 .add 8 1,aa 8 18]
def dZ:SF:=⟨.seq (aq [az 4 0]) <|
  .seq (.seq (aq [aa 6 0,aA 7 6,az 8 0]) <|
  .block 0 (.loop dT)) <|
  .seq (aq [az 4 (-1)]) <|
  .ret,
  [.tmp 4],19⟩
theorem gD:ba Tryz.prog 196 []=some dZ:=by kernel_rfl
def dE:SF:=⟨.seq (aq [aM 4 false]) <|
  .seq (aq [aa 5 0,aa 6 1,aJ 7 196 [5,6],au 8 .geq 7 0,aa 4 8]) <|
  .ret,
  [.tmp 4],9⟩
theorem fO:ba Tryz.prog 151 []=some dE:=by kernel_rfl
set_option maxHeartbeats 2000000 in
theorem Gz (l:List gI) (hl:aR l) (f:FuncId) (cap:List V) (p:gI→Bool) (H:View) (hf:∀ x∈l,aG Tryz.prog f (.agg (en x) :: cap) H fun r H'=>r=gb (p x)∧H'=H) :
    aG Tryz.prog 196 [.aL (l.map fun x=>en x),.fn f [] cap] H fun r H'=>r=gi (bR p l 0)∧H'=H:=by
  refine aG.of mixed gD ?_
  unfold aR at hl
  simp (disch:=omega) only [↓wr,↓reduceIte,wq,ah,ag,ak,ab,ae,af,ai,isNil,Nat.reduceEqDiff,Nat.reduceAdd,Nat.reduceLT,Nat.reduceLeDiff,Int.reduceNeg,Int.reduceToNat,reduceCtorEq,dZ]
  refine bp.up l.length (fun i T H'=>H=H'∧bR p (l.drop i) i=bR p l 0∧T 0=.aL (l.map fun x=>en x)∧T 1=.fn f [] cap∧T 7=gi l.length∧T 8=gi i) ⟨rfl,rfl,rfl,rfl,rfl,rfl⟩ ?_
  rintro i k T _ hk ⟨rfl,hi,h0,h1,h7,h8⟩
  simp (disch:=omega) only [↓wr,↓reduceIte,wq,ah,ag,ak,ab,ae,af,ai,isNil,Nat.reduceEqDiff,Nat.reduceAdd,Nat.reduceLT,Nat.reduceLeDiff,Int.reduceNeg,Int.reduceToNat,reduceCtorEq,dT,h0,h1,h7,h8]
  refine ar.dec (fun hc=>?_) (fun hc=>?_)
  · have hg:l[i]?=some (l[i]'(by omega)):=List.getElem?_eq_getElem (by omega)
    have hm:l[i]'(by omega)∈l:=List.getElem_mem _
    rw[c9 (show i < l.length by omega)] at hi
    generalize l[i]'(by omega)=x at hg hm hi
    simp (disch:=omega) only [↓wr,↓reduceIte,wq,ah,ag,ak,ab,ae,af,ai,isNil,Nat.reduceEqDiff,Nat.reduceAdd,Nat.reduceLT,Nat.reduceLeDiff,Int.reduceNeg,Int.reduceToNat,reduceCtorEq,h0,h1,h7,h8,List.getElem?_map,hg,Option.map_some,en]
    have hcall:=hf x hm
    simp only[en] at hcall
    refine aN.ig (hcall.mono ?_)
    rintro r H2 ⟨rfl,rfl⟩
    simp only[bR] at hi
    simp (disch:=omega) only [↓wr,↓reduceIte,wq,ah,ag,ak,ab,ae,af,ai,isNil,Nat.reduceEqDiff,Nat.reduceAdd,Nat.reduceLT,Nat.reduceLeDiff,Int.reduceNeg,Int.reduceToNat,reduceCtorEq]
    refine ar.split (fun hp=>?_) (fun hp=>?_)
    · simp (disch:=omega) only [↓wr,↓reduceIte,wq,ah,ag,ak,ab,ae,af,ai,isNil,Nat.reduceEqDiff,Nat.reduceAdd,Nat.reduceLT,Nat.reduceLeDiff,Int.reduceNeg,Int.reduceToNat,reduceCtorEq,h0,h1,h7,h8]
      rw[← hi,if_pos hp]
    · simp (disch:=omega) only [↓wr,↓reduceIte,wq,ah,ag,ak,ab,ae,af,ai,isNil,Nat.reduceEqDiff,Nat.reduceAdd,Nat.reduceLT,Nat.reduceLeDiff,Int.reduceNeg,Int.reduceToNat,reduceCtorEq,h0,h1,h7,h8]
      refine br hk (by omega) ⟨rfl,?_,h0,h1,h7,rfl⟩
      rw[if_neg (by simp[hp])] at hi
      push_cast; exact hi
  · rw[List.drop_eq_nil_of_le (by omega)] at hi
    simp (disch:=omega) only [↓wr,↓reduceIte,wq,ah,ag,ak,ab,ae,af,ai,isNil,Nat.reduceEqDiff,Nat.reduceAdd,Nat.reduceLT,Nat.reduceLeDiff,Int.reduceNeg,Int.reduceToNat,reduceCtorEq,h0,h1,h7,h8]
    rw[← hi]; rfl
theorem CD (l:List gI) (hl:aR l) (f:FuncId) (cap:List V) (p:gI→Bool) (H:View) (hf:∀ x∈l,aG Tryz.prog f (.agg (en x) :: cap) H fun r H'=>r=gb (p x)∧H'=H) :
    aG Tryz.prog 151 [.aL (l.map fun x=>en x),.fn f [] cap] H fun r H'=>r=gb (l.any p)∧H'=H:=by
  refine aG.of mixed fO ?_
  simp (disch:=omega) only [↓wr,↓reduceIte,wq,ah,ag,ak,ab,ae,af,ai,isNil,Nat.reduceEqDiff,Nat.reduceAdd,Nat.reduceLT,Nat.reduceLeDiff,Int.reduceNeg,Int.reduceToNat,reduceCtorEq,dE]
  refine aN.ig ((Gz l hl f cap p H hf).mono ?_)
  rintro r H2 ⟨rfl,rfl⟩
  simp (disch:=omega) only [↓wr,↓reduceIte,wq,ah,ag,ak,ab,ae,af,ai,isNil,Nat.reduceEqDiff,Nat.reduceAdd,Nat.reduceLT,Nat.reduceLeDiff,Int.reduceNeg,Int.reduceToNat,reduceCtorEq]
  rw[← iK _ l 0 (by omega)]
def se (t:Int):Int→List gz→Bool
  | _,[]=>true
  | last,x :: l=>decide (last < x.dA) && decide (x.dA < t) && se t x.dA l
def rG (t:Int):Int→List gI→Bool
  | _,[]=>true
  | last,x :: l=>decide (last < x.sym) && decide (x.sym < t) && rG t x.sym l
theorem Fy (t:Int):∀ (last:Int) (l:List gz),(se (t+1) last l && !l.any fun x=>decide (x.cell=⟨0,0⟩))=eM t last l
  | _,[]=>rfl
  | last,x :: l=>by
    rw[se,eM,← Fy t x.dA l,List.any_cons,decide_eq_decide.2 (show x.dA < t+1↔x.dA≤t by omega),decide_not]
    cases decide (last < x.dA) <;> cases decide (x.dA≤t) <;> cases decide (x.cell=⟨0,0⟩) <;> simp
theorem EZ (t:Int):∀ (last:Int) (l:List gI),(rG t last l && !l.any fun x=>decide (x.to = -1))=eo t last l
  | _,[]=>rfl
  | last,x :: l=>by
    rw[rG,eo,← EZ t x.sym l,List.any_cons,decide_not]
    cases decide (last < x.sym) <;> cases decide (x.sym < t) <;> cases decide (x.to = -1) <;> simp
theorem OX (x:gz):∀ v∈[V.agg (ep x)],Tree v:=by
  intro v hv; simp at hv; subst hv
  exact b9 _ fun v hv=>by simp[ep] at hv; rcases hv with rfl | rfl | rfl <;> exact .val _
theorem Ph (x:gI):∀ v∈[V.agg (en x)],Tree v:=by
  intro v hv; simp at hv; subst hv
  exact b9 _ fun v hv=>by simp[en] at hv; rcases hv with rfl | rfl <;> exact .val _
theorem PU (x:gz):aI Tryz.prog 146 [.agg (ep x)] (gi x.dA):=by
  refine aI.val (OX x) fun H=>?_
  refine aG.of mixed zr ?_
  simp (disch:=omega) only [↓wr,↓reduceIte,wq,ah,ag,ak,ab,ae,af,ai,isNil,Nat.reduceEqDiff,Nat.reduceAdd,Nat.reduceLT,Nat.reduceLeDiff,Int.reduceNeg,Int.reduceToNat,reduceCtorEq,tP,ep]
theorem Pk (x:gI):aI Tryz.prog 150 [.agg (en x)] (gi x.sym):=by
  refine aI.val (Ph x) fun H=>?_
  refine aG.of mixed zp ?_
  simp (disch:=omega) only [↓wr,↓reduceIte,wq,ah,ag,ak,ab,ae,af,ai,isNil,Nat.reduceEqDiff,Nat.reduceAdd,Nat.reduceLT,Nat.reduceLeDiff,Int.reduceNeg,Int.reduceToNat,reduceCtorEq,uW,en]
theorem PQ (x:gz) (H:View):aG Tryz.prog 148 [.agg (ep x)] H fun r H'=>r=gb (decide (x.cell=⟨0,0⟩))∧H'=H:=by
  refine aG.of mixed zq ?_
  simp (disch:=omega) only [↓wr,↓reduceIte,wq,ah,ag,ak,ab,ae,af,ai,isNil,Nat.reduceEqDiff,Nat.reduceAdd,Nat.reduceLT,Nat.reduceLeDiff,Int.reduceNeg,Int.reduceToNat,reduceCtorEq,uo,ep]
  refine te (xs:=#[.int .i64 x.cell.kind,.int .i64 x.cell.n]) (ys:=#[.int .i64 0,.int .i64 0]) Tryz.underlying84 (by kernel_rfl) (by kernel_rfl) ?_ ?_ (zR x.cell ⟨0,0⟩) (.inl ⟨rfl,rfl⟩) ?_
  · rfl
  · rfl
  rw[Gf]
  simp (disch:=omega) only [↓wr,↓reduceIte,wq,ah,ag,ak,ab,ae,af,ai,isNil,Nat.reduceEqDiff,Nat.reduceAdd,Nat.reduceLT,Nat.reduceLeDiff,Int.reduceNeg,Int.reduceToNat,reduceCtorEq]
theorem OW (x:gI) (H:View):aG Tryz.prog 152 [.agg (en x)] H fun r H'=>r=gb (decide (x.to = -1))∧H'=H:=by
  refine aG.of mixed zi ?_
  simp (disch:=omega) only [↓wr,↓reduceIte,wq,ah,ag,ak,ab,ae,af,ai,isNil,Nat.reduceEqDiff,Nat.reduceAdd,Nat.reduceLT,Nat.reduceLeDiff,Int.reduceNeg,Int.reduceToNat,reduceCtorEq,tC,en]
  rw[OH]
theorem GG (x:Int) (n:Nat) (hn:n < 4611686018427387904):aI Tryz.prog 194 [gi x,.aQ [gi n] 0] (gb (!oP n x)):=by
  refine aI.val (by
    intro v hv; simp at hv
    rcases hv with rfl | rfl
    · exact .val _
    · exact gN (by intro v hv; simp at hv; subst hv; exact .val _)) fun H=>?_
  refine aG.of mixed xl ?_
  simp (disch:=omega) only [↓wr,↓reduceIte,wq,ah,ag,ak,ab,ae,af,ai,isNil,Nat.reduceEqDiff,Nat.reduceAdd,Nat.reduceLT,Nat.reduceLeDiff,Int.reduceNeg,Int.reduceToNat,reduceCtorEq,qA]
  unfold oP
  refine ar.dec (fun h1=>?_) (fun h1=>?_)
  · simp (disch:=omega) only [↓wr,↓reduceIte,wq,ah,ag,ak,ab,ae,af,ai,isNil,Nat.reduceEqDiff,Nat.reduceAdd,Nat.reduceLT,Nat.reduceLeDiff,Int.reduceNeg,Int.reduceToNat,reduceCtorEq]
    rw[decide_eq_false (show ¬ 0≤x by omega)]; rfl
  · simp (disch:=omega) only [↓wr,↓reduceIte,wq,ah,ag,ak,ab,ae,af,ai,isNil,Nat.reduceEqDiff,Nat.reduceAdd,Nat.reduceLT,Nat.reduceLeDiff,Int.reduceNeg,Int.reduceToNat,reduceCtorEq]
    rw[decide_eq_true (show 0≤x by omega)]
    rw[Bool.true_and,← decide_not]; congr 2; exact decide_eq_decide.2 ⟨fun h=>Int.not_lt.2 h,fun h=>Int.not_lt.1 h⟩
theorem Bw (l:List Int) (hl:aR l) (n:Nat) (hn:n < 4611686018427387904):aI Tryz.prog 144 [encI l,gi n] (gb (l.all fun x=>oP n x)):=by
  refine aI.val (by
    intro v hv; simp at hv
    rcases hv with rfl | rfl
    · exact c6 l
    · exact .val _) fun H=>?_
  have hcf:=kj l hl 194 [.aQ [gi n] 0] (by intro v hv; simp at hv; subst hv; exact gN (by intro v hv; simp at hv; subst hv; exact .val _)) (fun x=>!oP n x) (fun x _=>GG x n hn) (by kernel_rfl)
  refine aG.of mixed zj ?_
  simp (disch:=omega) only [↓wr,↓reduceIte,wq,ah,ag,ak,ab,ae,af,ai,isNil,Nat.reduceEqDiff,Nat.reduceAdd,Nat.reduceLT,Nat.reduceLeDiff,Int.reduceNeg,Int.reduceToNat,reduceCtorEq,tx]
  refine aN.pure hcf (by kernel_rfl) ?_
  simp (disch:=omega) only [↓wr,↓reduceIte,wq,ah,ag,ak,ab,ae,af,ai,isNil,Nat.reduceEqDiff,Nat.reduceAdd,Nat.reduceLT,Nat.reduceLeDiff,Int.reduceNeg,Int.reduceToNat,reduceCtorEq]
  rw[← List.not_all_eq_any_not,Bool.not_not]
set_option maxHeartbeats 4000000 in
theorem M0 (l:List gz) (hl:aR l) (t:Int):aI Tryz.prog 145 [xz l,gi t,.fn 146 [] []] (gb (se t (-1) l)):=by
  refine aI.val (by
    intro v hv; simp at hv
    rcases hv with rfl | rfl | rfl
    · exact dg _ _ fun c _ v hv=>by simp[ep] at hv; rcases hv with rfl | rfl | rfl <;> exact .val _
    · exact .val _
    · exact zb (by simp) (by simp)) fun H=>?_
  unfold aR at hl
  refine aG.of mixed oH ?_
  simp (disch:=omega) only [↓wr,↓reduceIte,wq,ah,ag,ak,ab,ae,af,ai,isNil,Nat.reduceEqDiff,Nat.reduceAdd,Nat.reduceLT,Nat.reduceLeDiff,Int.reduceNeg,Int.reduceToNat,reduceCtorEq,jb]
  refine bp.up l.length (fun j T H'=>∃ last:Int,se t (-1) l=se t last (l.drop j)∧T 1=gi t∧T 2=.fn 146 [] []∧T 7=gi last∧T 10=xz l∧T 11=gi l.length∧T 12=gi j) ⟨-1,by simp,rfl,rfl,rfl,rfl,rfl,rfl⟩ ?_
  rintro j k T H' hk ⟨last,hr,t1,t2,t7,t10,t11,t12⟩
  simp (disch:=omega) only [↓wr,↓reduceIte,wq,ah,ag,ak,ab,ae,af,ai,isNil,Nat.reduceEqDiff,Nat.reduceAdd,Nat.reduceLT,Nat.reduceLeDiff,Int.reduceNeg,Int.reduceToNat,reduceCtorEq,gZ,t1,t2,t7,t10,t11,t12]
  refine ar.dec (fun hc=>?_) (fun hc=>?_)
  · have hx:l[j]?=some (l[j]'(by omega)):=List.getElem?_eq_getElem (by omega)
    have hd:l.drop j=l[j]'(by omega) :: l.drop (j+1):=List.drop_eq_getElem_cons (by omega)
    generalize l[j]'(by omega)=x at hx hd
    rw[hd,se] at hr
    have h1:=PU x
    simp only[ep] at h1
    simp (disch:=omega) only [↓wr,↓reduceIte,wq,ah,ag,ak,ab,ae,af,ai,isNil,Nat.reduceEqDiff,Nat.reduceAdd,Nat.reduceLT,Nat.reduceLeDiff,Int.reduceNeg,Int.reduceToNat,reduceCtorEq,t1,t2,t7,t10,t11,t12,List.getElem?_map,hx,Option.map_some,ep]
    intro b hb
    rw[set_set]
    have hbb:(H'.set b (.arr 3 [[gi x.dA,gi x.cell.kind,gi x.cell.n]])) b=.arr 3 [[gi x.dA,gi x.cell.kind,gi x.cell.n]]:=by simp[View.set]
    generalize H'.set b (.arr 3 [[gi x.dA,gi x.cell.kind,gi x.cell.n]])=H4 at hbb
    refine aN.pure h1 (by kernel_rfl) ?_
    simp (disch:=omega) only [↓wr,↓reduceIte,wq,ah,ag,ak,ab,ae,af,ai,isNil,Nat.reduceEqDiff,Nat.reduceAdd,Nat.reduceLT,Nat.reduceLeDiff,Int.reduceNeg,Int.reduceToNat,reduceCtorEq,t1,t2,t7,t10,t11,t12]
    refine ar.dec (fun g1=>?_) (fun g1=>?_)
    · simp (disch:=omega) only [↓wr,↓reduceIte,wq,ah,ag,ak,ab,ae,af,ai,isNil,Nat.reduceEqDiff,Nat.reduceAdd,Nat.reduceLT,Nat.reduceLeDiff,Int.reduceNeg,Int.reduceToNat,reduceCtorEq]
      rw[hr,decide_eq_false (show ¬ last < x.dA by omega)]; rfl
    simp (disch:=omega) only [↓wr,↓reduceIte,wq,ah,ag,ak,ab,ae,af,ai,isNil,Nat.reduceEqDiff,Nat.reduceAdd,Nat.reduceLT,Nat.reduceLeDiff,Int.reduceNeg,Int.reduceToNat,reduceCtorEq,t1,t2,t7,t10,t11,t12,hbb]
    refine aN.pure h1 (by kernel_rfl) ?_
    simp (disch:=omega) only [↓wr,↓reduceIte,wq,ah,ag,ak,ab,ae,af,ai,isNil,Nat.reduceEqDiff,Nat.reduceAdd,Nat.reduceLT,Nat.reduceLeDiff,Int.reduceNeg,Int.reduceToNat,reduceCtorEq,t1,t2,t7,t10,t11,t12]
    refine ar.dec (fun g2=>?_) (fun g2=>?_)
    · simp (disch:=omega) only [↓wr,↓reduceIte,wq,ah,ag,ak,ab,ae,af,ai,isNil,Nat.reduceEqDiff,Nat.reduceAdd,Nat.reduceLT,Nat.reduceLeDiff,Int.reduceNeg,Int.reduceToNat,reduceCtorEq]
      rw[hr,decide_eq_false (show ¬ x.dA < t by omega),Bool.and_false]; rfl
    simp (disch:=omega) only [↓wr,↓reduceIte,wq,ah,ag,ak,ab,ae,af,ai,isNil,Nat.reduceEqDiff,Nat.reduceAdd,Nat.reduceLT,Nat.reduceLeDiff,Int.reduceNeg,Int.reduceToNat,reduceCtorEq,t1,t2,t7,t10,t11,t12,hbb]
    refine aN.pure h1 (by kernel_rfl) ?_
    simp (disch:=omega) only [↓wr,↓reduceIte,wq,ah,ag,ak,ab,ae,af,ai,isNil,Nat.reduceEqDiff,Nat.reduceAdd,Nat.reduceLT,Nat.reduceLeDiff,Int.reduceNeg,Int.reduceToNat,reduceCtorEq,t1,t2,t7,t10,t11,t12]
    rw[decide_eq_true (show last < x.dA by omega),decide_eq_true (show x.dA < t by omega)] at hr
    exact br hk (by omega) ⟨x.dA,hr,t1,t2,rfl,t10,t11,rfl⟩
  · rw[List.drop_eq_nil_of_le (by omega),se] at hr
    simp (disch:=omega) only [↓wr,↓reduceIte,wq,ah,ag,ak,ab,ae,af,ai,isNil,Nat.reduceEqDiff,Nat.reduceAdd,Nat.reduceLT,Nat.reduceLeDiff,Int.reduceNeg,Int.reduceToNat,reduceCtorEq]
    rw[hr]
set_option maxHeartbeats 4000000 in
theorem MM (l:List gI) (hl:aR l) (t:Int):aI Tryz.prog 149 [yd l,gi t,.fn 150 [] []] (gb (rG t (-1) l)):=by
  refine aI.val (by
    intro v hv; simp at hv
    rcases hv with rfl | rfl | rfl
    · exact dg _ _ fun c _ v hv=>by simp[en] at hv; rcases hv with rfl | rfl <;> exact .val _
    · exact .val _
    · exact zb (by simp) (by simp)) fun H=>?_
  unfold aR at hl
  refine aG.of mixed oX ?_
  simp (disch:=omega) only [↓wr,↓reduceIte,wq,ah,ag,ak,ab,ae,af,ai,isNil,Nat.reduceEqDiff,Nat.reduceAdd,Nat.reduceLT,Nat.reduceLeDiff,Int.reduceNeg,Int.reduceToNat,reduceCtorEq,jB]
  refine bp.up l.length (fun j T H'=>∃ last:Int,rG t (-1) l=rG t last (l.drop j)∧T 1=gi t∧T 2=.fn 150 [] []∧T 7=gi last∧T 10=yd l∧T 11=gi l.length∧T 12=gi j) ⟨-1,by simp,rfl,rfl,rfl,rfl,rfl,rfl⟩ ?_
  rintro j k T H' hk ⟨last,hr,t1,t2,t7,t10,t11,t12⟩
  simp (disch:=omega) only [↓wr,↓reduceIte,wq,ah,ag,ak,ab,ae,af,ai,isNil,Nat.reduceEqDiff,Nat.reduceAdd,Nat.reduceLT,Nat.reduceLeDiff,Int.reduceNeg,Int.reduceToNat,reduceCtorEq,ik,t1,t2,t7,t10,t11,t12]
  refine ar.dec (fun hc=>?_) (fun hc=>?_)
  · have hx:l[j]?=some (l[j]'(by omega)):=List.getElem?_eq_getElem (by omega)
    have hd:l.drop j=l[j]'(by omega) :: l.drop (j+1):=List.drop_eq_getElem_cons (by omega)
    generalize l[j]'(by omega)=x at hx hd
    rw[hd,rG] at hr
    have h1:=Pk x
    simp only[en] at h1
    simp (disch:=omega) only [↓wr,↓reduceIte,wq,ah,ag,ak,ab,ae,af,ai,isNil,Nat.reduceEqDiff,Nat.reduceAdd,Nat.reduceLT,Nat.reduceLeDiff,Int.reduceNeg,Int.reduceToNat,reduceCtorEq,t1,t2,t7,t10,t11,t12,List.getElem?_map,hx,Option.map_some,en]
    intro b hb
    rw[set_set]
    have hbb:(H'.set b (.arr 2 [[gi x.sym,gi x.to]])) b=.arr 2 [[gi x.sym,gi x.to]]:=by simp[View.set]
    generalize H'.set b (.arr 2 [[gi x.sym,gi x.to]])=H4 at hbb
    refine aN.pure h1 (by kernel_rfl) ?_
    simp (disch:=omega) only [↓wr,↓reduceIte,wq,ah,ag,ak,ab,ae,af,ai,isNil,Nat.reduceEqDiff,Nat.reduceAdd,Nat.reduceLT,Nat.reduceLeDiff,Int.reduceNeg,Int.reduceToNat,reduceCtorEq,t1,t2,t7,t10,t11,t12]
    refine ar.dec (fun g1=>?_) (fun g1=>?_)
    · simp (disch:=omega) only [↓wr,↓reduceIte,wq,ah,ag,ak,ab,ae,af,ai,isNil,Nat.reduceEqDiff,Nat.reduceAdd,Nat.reduceLT,Nat.reduceLeDiff,Int.reduceNeg,Int.reduceToNat,reduceCtorEq]
      rw[hr,decide_eq_false (show ¬ last < x.sym by omega)]; rfl
    simp (disch:=omega) only [↓wr,↓reduceIte,wq,ah,ag,ak,ab,ae,af,ai,isNil,Nat.reduceEqDiff,Nat.reduceAdd,Nat.reduceLT,Nat.reduceLeDiff,Int.reduceNeg,Int.reduceToNat,reduceCtorEq,t1,t2,t7,t10,t11,t12,hbb]
    refine aN.pure h1 (by kernel_rfl) ?_
    simp (disch:=omega) only [↓wr,↓reduceIte,wq,ah,ag,ak,ab,ae,af,ai,isNil,Nat.reduceEqDiff,Nat.reduceAdd,Nat.reduceLT,Nat.reduceLeDiff,Int.reduceNeg,Int.reduceToNat,reduceCtorEq,t1,t2,t7,t10,t11,t12]
    refine ar.dec (fun g2=>?_) (fun g2=>?_)
    · simp (disch:=omega) only [↓wr,↓reduceIte,wq,ah,ag,ak,ab,ae,af,ai,isNil,Nat.reduceEqDiff,Nat.reduceAdd,Nat.reduceLT,Nat.reduceLeDiff,Int.reduceNeg,Int.reduceToNat,reduceCtorEq]
      rw[hr,decide_eq_false (show ¬ x.sym < t by omega),Bool.and_false]; rfl
    simp (disch:=omega) only [↓wr,↓reduceIte,wq,ah,ag,ak,ab,ae,af,ai,isNil,Nat.reduceEqDiff,Nat.reduceAdd,Nat.reduceLT,Nat.reduceLeDiff,Int.reduceNeg,Int.reduceToNat,reduceCtorEq,t1,t2,t7,t10,t11,t12,hbb]
    refine aN.pure h1 (by kernel_rfl) ?_
    simp (disch:=omega) only [↓wr,↓reduceIte,wq,ah,ag,ak,ab,ae,af,ai,isNil,Nat.reduceEqDiff,Nat.reduceAdd,Nat.reduceLT,Nat.reduceLeDiff,Int.reduceNeg,Int.reduceToNat,reduceCtorEq,t1,t2,t7,t10,t11,t12]
    rw[decide_eq_true (show last < x.sym by omega),decide_eq_true (show x.sym < t by omega)] at hr
    exact br hk (by omega) ⟨x.sym,hr,t1,t2,rfl,t10,t11,rfl⟩
  · rw[List.drop_eq_nil_of_le (by omega),rG] at hr
    simp (disch:=omega) only [↓wr,↓reduceIte,wq,ah,ag,ak,ab,ae,af,ai,isNil,Nat.reduceEqDiff,Nat.reduceAdd,Nat.reduceLT,Nat.reduceLeDiff,Int.reduceNeg,Int.reduceToNat,reduceCtorEq]
    rw[hr]
set_option maxHeartbeats 8000000 in
theorem Kj (p:fp) (hp:p.Ok):aI Tryz.prog 92 [.agg (aZ p)] (gb (ez p)):=by
  refine aI.val (yE p) fun H=>?_
  have h1:=hp.of.1
  have h2:=hp.to.1
  have h3:=hp.rows
  have h4:=hp.gotos
  unfold aR at h1 h2 h3 h4
  have n1:=Bw p.of hp.of.1 p.rows.length h3
  have n2:=Bw p.to hp.to.1 p.gotos.length h4
  simp only[encI] at n1 n2
  refine aG.of mixed AJ ?_
  have hneg:¬ (0≤p.av∧p.av≤24∧0≤p.aw∧p.aw≤16∧1≤p.of.length∧p.of.length≤300∧p.to.length=p.of.length∧p.rows.length≤300∧p.gotos.length≤300)→gb false=gb (ez p):=fun h=>by
    unfold ez; rw[decide_eq_false h]; simp
  simp (disch:=omega) only [↓wr,↓reduceIte,wq,ah,ag,ak,ab,ae,af,ai,isNil,Nat.reduceEqDiff,Nat.reduceAdd,Nat.reduceLT,Nat.reduceLeDiff,Int.reduceNeg,Int.reduceToNat,reduceCtorEq,yz,aZ]
  repeat' (first | (refine ar.dec (fun _=>?_) (fun _=>?_)) | (refine ar.eq (fun _=>?_) (fun _=>?_)) | (refine ar.ne (fun _=>?_) (fun _=>?_)) | (refine ar.split (fun _=>?_) (fun _=>?_)) | (simp (disch:=omega) only [↓wr,↓reduceIte,wq,ah,ag,ak,ab,ae,af,ai,isNil,Nat.reduceEqDiff,Nat.reduceAdd,Nat.reduceLT,Nat.reduceLeDiff,Int.reduceNeg,Int.reduceToNat,reduceCtorEq,aZ,encI]))
  all_goals try exact hneg (by omega)
  have hsh:0≤p.av∧p.av≤24∧0≤p.aw∧p.aw≤16∧1≤p.of.length∧p.of.length≤300∧p.to.length=p.of.length∧p.rows.length≤300∧p.gotos.length≤300:=by omega
  rw[show ez p=((p.of.all fun x=>oP p.rows.length x) && (p.to.all fun x=>oP p.gotos.length x) && (p.rows.all fun r=>eM p.av (-1) r) && p.gotos.all fun r=>eo p.aw (-1) r) by unfold ez; rw[decide_eq_true hsh,Bool.true_and]; rfl]
  refine aN.pure n1 (by kernel_rfl) ?_
  simp (disch:=omega) only [↓wr,↓reduceIte,wq,ah,ag,ak,ab,ae,af,ai,isNil,Nat.reduceEqDiff,Nat.reduceAdd,Nat.reduceLT,Nat.reduceLeDiff,Int.reduceNeg,Int.reduceToNat,reduceCtorEq,aZ]
  refine ar.split (fun a1=>?_) (fun a1=>?_)
  rotate_left
  · simp (disch:=omega) only [↓wr,↓reduceIte,wq,ah,ag,ak,ab,ae,af,ai,isNil,Nat.reduceEqDiff,Nat.reduceAdd,Nat.reduceLT,Nat.reduceLeDiff,Int.reduceNeg,Int.reduceToNat,reduceCtorEq]
    rw[a1]; simp
  simp (disch:=omega) only [↓wr,↓reduceIte,wq,ah,ag,ak,ab,ae,af,ai,isNil,Nat.reduceEqDiff,Nat.reduceAdd,Nat.reduceLT,Nat.reduceLeDiff,Int.reduceNeg,Int.reduceToNat,reduceCtorEq,aZ,encI]
  refine aN.pure n2 (by kernel_rfl) ?_
  simp (disch:=omega) only [↓wr,↓reduceIte,wq,ah,ag,ak,ab,ae,af,ai,isNil,Nat.reduceEqDiff,Nat.reduceAdd,Nat.reduceLT,Nat.reduceLeDiff,Int.reduceNeg,Int.reduceToNat,reduceCtorEq,aZ]
  refine ar.split (fun a2=>?_) (fun a2=>?_)
  rotate_left
  · simp (disch:=omega) only [↓wr,↓reduceIte,wq,ah,ag,ak,ab,ae,af,ai,isNil,Nat.reduceEqDiff,Nat.reduceAdd,Nat.reduceLT,Nat.reduceLeDiff,Int.reduceNeg,Int.reduceToNat,reduceCtorEq]
    rw[a2]; simp
  rw[a1,a2,Bool.true_and,Bool.true_and]
  simp (disch:=omega) only [↓wr,↓reduceIte,wq,ah,ag,ak,ab,ae,af,ai,isNil,Nat.reduceEqDiff,Nat.reduceAdd,Nat.reduceLT,Nat.reduceLeDiff,Int.reduceNeg,Int.reduceToNat,reduceCtorEq,aZ]
  refine bp.up p.rows.length (fun i T H'=>((p.rows.take i).all fun r=>eM p.av (-1) r)=true∧T 1=.aQ (aZ p) 0∧T 75=.aL (p.rows.map fun r=>[xz r])∧T 76=gi p.rows.length∧T 77=gi i) ⟨by simp,rfl,rfl,rfl,rfl⟩ ?_
  rintro i k T H' hk ⟨a3,t1,t75,t76,t77⟩
  simp (disch:=omega) only [↓wr,↓reduceIte,wq,ah,ag,ak,ab,ae,af,ai,isNil,Nat.reduceEqDiff,Nat.reduceAdd,Nat.reduceLT,Nat.reduceLeDiff,Int.reduceNeg,Int.reduceToNat,reduceCtorEq,u5,t1,t75,t76,t77]
  refine ar.dec (fun hc=>?_) (fun hc=>?_)
  · have hr:p.rows[i]?=some (p.rows[i]'(by omega)):=List.getElem?_eq_getElem (by omega)
    generalize p.rows[i]'(by omega)=row at hr
    have hrl:=(hp.row row (List.mem_of_getElem? hr)).1
    have hri:=Fy p.av (-1) row
    have c1:=M0 row hrl (p.av+1)
    have hw:gi (p.av+1)=V.val (Value.int .i64 (p.av+1)):=rfl
    simp (disch:=omega) only [↓wr,↓reduceIte,wq,ah,ag,ak,ab,ae,af,ai,isNil,Nat.reduceEqDiff,Nat.reduceAdd,Nat.reduceLT,Nat.reduceLeDiff,Int.reduceNeg,Int.reduceToNat,reduceCtorEq,t1,t75,t76,t77,List.getElem?_map,hr,Option.map_some,aZ]
    refine aN.pure c1 (by kernel_rfl) ?_
    simp (disch:=omega) only [↓wr,↓reduceIte,wq,ah,ag,ak,ab,ae,af,ai,isNil,Nat.reduceEqDiff,Nat.reduceAdd,Nat.reduceLT,Nat.reduceLeDiff,Int.reduceNeg,Int.reduceToNat,reduceCtorEq]
    refine ar.split (fun e1=>?_) (fun e1=>?_)
    rotate_left
    · simp (disch:=omega) only [↓wr,↓reduceIte,wq,ah,ag,ak,ab,ae,af,ai,isNil,Nat.reduceEqDiff,Nat.reduceAdd,Nat.reduceLT,Nat.reduceLeDiff,Int.reduceNeg,Int.reduceToNat,reduceCtorEq]
      rw[e1,Bool.false_and] at hri
      rw[kP hr hri.symm]; rfl
    simp (disch:=omega) only [↓wr,↓reduceIte,wq,ah,ag,ak,ab,ae,af,ai,isNil,Nat.reduceEqDiff,Nat.reduceAdd,Nat.reduceLT,Nat.reduceLeDiff,Int.reduceNeg,Int.reduceToNat,reduceCtorEq,t1,t75,t76,t77]
    refine aN.ig ((Cf row hrl 148 [] (fun x=>decide (x.cell=⟨0,0⟩)) H' (fun x _=>PQ x H')).mono ?_)
    rintro r H2 ⟨rfl,rfl⟩
    simp (disch:=omega) only [↓wr,↓reduceIte,wq,ah,ag,ak,ab,ae,af,ai,isNil,Nat.reduceEqDiff,Nat.reduceAdd,Nat.reduceLT,Nat.reduceLeDiff,Int.reduceNeg,Int.reduceToNat,reduceCtorEq]
    rw[e1,Bool.true_and] at hri
    refine ar.split (fun e2=>?_) (fun e2=>?_)
    · simp (disch:=omega) only [↓wr,↓reduceIte,wq,ah,ag,ak,ab,ae,af,ai,isNil,Nat.reduceEqDiff,Nat.reduceAdd,Nat.reduceLT,Nat.reduceLeDiff,Int.reduceNeg,Int.reduceToNat,reduceCtorEq]
      rw[e2] at hri
      rw[kP hr hri.symm]; rfl
    rw[e2] at hri
    simp (disch:=omega) only [↓wr,↓reduceIte,wq,ah,ag,ak,ab,ae,af,ai,isNil,Nat.reduceEqDiff,Nat.reduceAdd,Nat.reduceLT,Nat.reduceLeDiff,Int.reduceNeg,Int.reduceToNat,reduceCtorEq,t1,t75,t76,t77]
    exact br hk (by omega) ⟨by rw[m0 hr,a3,← hri]; rfl,t1,t75,t76,rfl⟩
  rw[List.take_of_length_le (by omega)] at a3
  rw[a3,Bool.true_and]
  simp (disch:=omega) only [↓wr,↓reduceIte,wq,ah,ag,ak,ab,ae,af,ai,isNil,Nat.reduceEqDiff,Nat.reduceAdd,Nat.reduceLT,Nat.reduceLeDiff,Int.reduceNeg,Int.reduceToNat,reduceCtorEq,t1,aZ]
  refine bp.up p.gotos.length (fun i T H'=>((p.gotos.take i).all fun r=>eo p.aw (-1) r)=true∧T 1=.aQ (aZ p) 0∧T 93=.aL (p.gotos.map fun r=>[yd r])∧T 94=gi p.gotos.length∧T 95=gi i) ⟨by simp,t1,rfl,rfl,rfl⟩ ?_
  rintro i k T H' hk ⟨a3,t1,t75,t76,t77⟩
  simp (disch:=omega) only [↓wr,↓reduceIte,wq,ah,ag,ak,ab,ae,af,ai,isNil,Nat.reduceEqDiff,Nat.reduceAdd,Nat.reduceLT,Nat.reduceLeDiff,Int.reduceNeg,Int.reduceToNat,reduceCtorEq,vd,t1,t75,t76,t77]
  refine ar.dec (fun hc=>?_) (fun hc=>?_)
  · have hr:p.gotos[i]?=some (p.gotos[i]'(by omega)):=List.getElem?_eq_getElem (by omega)
    generalize p.gotos[i]'(by omega)=row at hr
    have hrl:=(hp.go row (List.mem_of_getElem? hr)).1
    have hri:=EZ p.aw (-1) row
    have c1:=MM row hrl p.aw
    simp (disch:=omega) only [↓wr,↓reduceIte,wq,ah,ag,ak,ab,ae,af,ai,isNil,Nat.reduceEqDiff,Nat.reduceAdd,Nat.reduceLT,Nat.reduceLeDiff,Int.reduceNeg,Int.reduceToNat,reduceCtorEq,t1,t75,t76,t77,List.getElem?_map,hr,Option.map_some,aZ]
    refine aN.pure c1 (by kernel_rfl) ?_
    simp (disch:=omega) only [↓wr,↓reduceIte,wq,ah,ag,ak,ab,ae,af,ai,isNil,Nat.reduceEqDiff,Nat.reduceAdd,Nat.reduceLT,Nat.reduceLeDiff,Int.reduceNeg,Int.reduceToNat,reduceCtorEq]
    refine ar.split (fun e1=>?_) (fun e1=>?_)
    rotate_left
    · simp (disch:=omega) only [↓wr,↓reduceIte,wq,ah,ag,ak,ab,ae,af,ai,isNil,Nat.reduceEqDiff,Nat.reduceAdd,Nat.reduceLT,Nat.reduceLeDiff,Int.reduceNeg,Int.reduceToNat,reduceCtorEq]
      rw[e1,Bool.false_and] at hri
      rw[kP hr hri.symm]
    simp (disch:=omega) only [↓wr,↓reduceIte,wq,ah,ag,ak,ab,ae,af,ai,isNil,Nat.reduceEqDiff,Nat.reduceAdd,Nat.reduceLT,Nat.reduceLeDiff,Int.reduceNeg,Int.reduceToNat,reduceCtorEq,t1,t75,t76,t77]
    refine aN.ig ((CD row hrl 152 [] (fun x=>decide (x.to = -1)) H' (fun x _=>OW x H')).mono ?_)
    rintro r H2 ⟨rfl,rfl⟩
    simp (disch:=omega) only [↓wr,↓reduceIte,wq,ah,ag,ak,ab,ae,af,ai,isNil,Nat.reduceEqDiff,Nat.reduceAdd,Nat.reduceLT,Nat.reduceLeDiff,Int.reduceNeg,Int.reduceToNat,reduceCtorEq]
    rw[e1,Bool.true_and] at hri
    refine ar.split (fun e2=>?_) (fun e2=>?_)
    · simp (disch:=omega) only [↓wr,↓reduceIte,wq,ah,ag,ak,ab,ae,af,ai,isNil,Nat.reduceEqDiff,Nat.reduceAdd,Nat.reduceLT,Nat.reduceLeDiff,Int.reduceNeg,Int.reduceToNat,reduceCtorEq]
      rw[e2] at hri
      rw[kP hr hri.symm]
    rw[e2] at hri
    simp (disch:=omega) only [↓wr,↓reduceIte,wq,ah,ag,ak,ab,ae,af,ai,isNil,Nat.reduceEqDiff,Nat.reduceAdd,Nat.reduceLT,Nat.reduceLeDiff,Int.reduceNeg,Int.reduceToNat,reduceCtorEq,t1,t75,t76,t77]
    exact br hk (by omega) ⟨by rw[m0 hr,a3,← hri]; rfl,t1,t75,t76,rfl⟩
  rw[List.take_of_length_le (by omega)] at a3
  rw[a3]
  simp (disch:=omega) only [↓wr,↓reduceIte,wq,ah,ag,ak,ab,ae,af,ai,isNil,Nat.reduceEqDiff,Nat.reduceAdd,Nat.reduceLT,Nat.reduceLeDiff,Int.reduceNeg,Int.reduceToNat,reduceCtorEq]
end Gv
