/-
  Part 10 of the proof: what the machine does and what the functions answer.
  Conditions: those that each lemma names.
-/
import Derived.ProofKit
import Derived.SizedLaws
import Derived.Test.YtomcjampldmjoaaGreatSGzXI
set_option linter.unusedSimpArgs false
set_option linter.unusedVariables false
set_option maxRecDepth 100000
namespace Gv
open Go Go.Proofs
def jK (g:ay):List bc→Int→Bool
  | [],next=>next == g.aw.length
  | r :: l,next=>decide (0≤r.left) && decide (r.left≤next) && fG g r && jK g l (if r.left+1 > next then r.left+1 else next)
def rh (g:ay):List ByteArray:=g.aw ++ g.av.map Term.name
def om (g:ay):Bool :=
  qz g.av && (decide ((1:Int)≤g.aw.length) && decide ((g.aw.length:Int)≤16)) && (decide ((1:Int)≤g.rules.length) && decide ((g.rules.length:Int)≤40)) && decide (names (rh g)).Nodup && (decide (0≤g.start) && decide (g.start≤(g.aw.length:Int) - 1)) &&
    !(g.aw.any fun s=>!eO (dR s)) && jK g g.rules 0
theorem E4 {l:List ByteArray} : ∀ e∈(l.map fun s=>[gs s]),∀ v∈e,Tree v:=by
  intro e he v hv
  obtain ⟨a,_,rfl⟩:=List.mem_map.1 he
  rw[List.mem_singleton] at hv
  subst hv
  exact .val _
set_option maxHeartbeats 4000000 in
theorem Le (g:ay) (hg:g.Ok) (hs:g.aw.length+g.av.length≤1000) (H:View):aG Tryz.prog 45 [.agg (ax g)] H fun r _=>r=gb (om g):=by
  refine aG.of mixed Co ?_
  have hn:=hg.aw
  have ht:=hg.av
  have hr:=hg.rules
  unfold aR at hn ht hr
  simp (disch:=omega) only [↓wr,↓reduceIte,wq,ah,ag,ak,ab,ae,af,ai,isNil,Nat.reduceEqDiff,Nat.reduceAdd,Nat.reduceLT,Nat.reduceLeDiff,Int.reduceNeg,Int.reduceToNat,reduceCtorEq,zD,ax,encS]
  refine aN.ig ((LQ g.aw (by omega) H).mono ?_)
  rintro u H1 ⟨hu,hf⟩
  simp (disch:=omega) only [↓wr,↓reduceIte,wq,ah,ag,ak,ab,ae,af,ai,isNil,Nat.reduceEqDiff,Nat.reduceAdd,Nat.reduceLT,Nat.reduceLeDiff,Int.reduceNeg,Int.reduceToNat,reduceCtorEq,ax,encS]
  refine bp.up g.av.length (fun i T H=>T 1=.aQ (ax g) 0∧(∃ u,T 3=u∧bj H u 1 ((g.aw ++ (g.av.take i).map Term.name).map fun s=>[gs s]))∧T 13=dK g.av∧T 14=gi g.av.length∧T 15=gi i) ?_ ?_
  · exact ⟨rfl,⟨u,rfl,by simpa using hu⟩,rfl,rfl,rfl⟩
  rintro i k T H' hk ⟨h1,⟨u,h3,hu⟩,h13,h14,h15⟩
  simp (disch:=omega) only [↓wr,↓reduceIte,wq,ah,ag,ak,ab,ae,af,ai,isNil,Nat.reduceEqDiff,Nat.reduceAdd,Nat.reduceLT,Nat.reduceLeDiff,Int.reduceNeg,Int.reduceToNat,reduceCtorEq,wV,h1,h13,h14,h15,dK]
  refine ar.dec (fun hc=>?_) (fun hc=>?_)
  · have hg2:g.av[i]?=some (g.av[i]'(by omega)):=List.getElem?_eq_getElem (by omega)
    have htk:(g.av.take (i+1)).map Term.name=(g.av.take i).map Term.name ++ [(g.av[i]'(by omega)).name]:=by
      rw[List.take_add_one,hg2,List.map_append]; rfl
    generalize g.av[i]'(by omega)=t at hg2 htk
    simp (disch:=omega) only [↓wr,↓reduceIte,wq,ah,ag,ak,ab,ae,af,ai,isNil,Nat.reduceEqDiff,Nat.reduceAdd,Nat.reduceLT,Nat.reduceLeDiff,Int.reduceNeg,Int.reduceToNat,reduceCtorEq,h1,h3,h13,h14,h15,dK,df,List.getElem?_map,hg2]
    intro b hb
    try simp (disch:=omega) only [↓wr,↓reduceIte,wq,ah,ag,ak,ab,ae,af,ai,isNil,Nat.reduceEqDiff,Nat.reduceAdd,Nat.reduceLT,Nat.reduceLeDiff,Int.reduceNeg,Int.reduceToNat,reduceCtorEq,h1,h3,h13,h14,h15,set_set]
    intro m hm
    have hmb:=(dq hm cU).1
    have hm:=(dq (dq hm cU).2 cU).2
    try simp (disch:=omega) only [↓wr,↓reduceIte,wq,ah,ag,ak,ab,ae,af,ai,isNil,Nat.reduceEqDiff,Nat.reduceAdd,Nat.reduceLT,Nat.reduceLeDiff,Int.reduceNeg,Int.reduceToNat,reduceCtorEq,h1,h3,h13,h14,h15,cn]
    have hl:((g.aw ++ (g.av.take i).map Term.name).map fun s=>[gs s]).length≤1000:=by simp; omega
    refine rW (((hu.fresh hb).other (hu.ne hb)).fresh (by simp[View.set,hm,hmb])) (by simp) (by simp[aU]) (by unfold aP; simp at hl ⊢; omega) (by unfold aP; simp at hl ⊢; omega) ?_
    intro u' H2 hu' _
    simp (disch:=omega) only [↓wr,↓reduceIte,wq,ah,ag,ak,ab,ae,af,ai,isNil,Nat.reduceEqDiff,Nat.reduceAdd,Nat.reduceLT,Nat.reduceLeDiff,Int.reduceNeg,Int.reduceToNat,reduceCtorEq,h1,h3,h13,h14,h15]
    refine br hk (by omega) ⟨h1,⟨u',rfl,?_⟩,h13,h14,rfl⟩
    rw[htk]
    simpa using hu'
  · rw[List.take_of_length_le (by omega)] at hu
    have hal:H'=H':=rfl
    have hall:(rh g).length≤1000:=by simp[rh]; omega
    repeat' (first | (refine ar.dec (fun _=>?_) (fun _=>?_)) | (refine ar.eq (fun _=>?_) (fun _=>?_)) | (refine ar.ne (fun _=>?_) (fun _=>?_)) | (refine ar.split (fun _=>?_) (fun _=>?_)) | (refine aN.pure (LJ g.av hg.av) (by kernel_rfl) ?_) | (refine aN.pure (qb _ _ _) (by kernel_rfl) ?_) | (refine aN.QO (MS (rh g) hall) (by kernel_rfl) (.val _) ⟨ef.own hu E4,trivial⟩ ?_) | (simp (disch:=omega) only [↓wr,↓reduceIte,wq,ah,ag,ak,ab,ae,af,ai,isNil,Nat.reduceEqDiff,Nat.reduceAdd,Nat.reduceLT,Nat.reduceLeDiff,Int.reduceNeg,Int.reduceToNat,reduceCtorEq,h1,h3,h13,h14,h15,ax,encS]))
    all_goals try (simp[om, *]; done)
    rename_i e1 e2 e3 e4 e5
    refine aN.pure (zW g.aw hg.aw 85 [] (by simp) (fun s=>!eO (dR s)) (fun x _=>IU x) (by kernel_rfl)) (by kernel_rfl) ?_
    repeat' (first | (refine ar.dec (fun _=>?_) (fun _=>?_)) | (refine ar.eq (fun _=>?_) (fun _=>?_)) | (refine ar.ne (fun _=>?_) (fun _=>?_)) | (refine ar.split (fun _=>?_) (fun _=>?_)) | (simp (disch:=omega) only [↓wr,↓reduceIte,wq,ah,ag,ak,ab,ae,af,ai,isNil,Nat.reduceEqDiff,Nat.reduceAdd,Nat.reduceLT,Nat.reduceLeDiff,Int.reduceNeg,Int.reduceToNat,reduceCtorEq,h1,h3,h13,h14,h15,ax,encS]))
    all_goals try (simp[om, *]; done)
    rename_i e6
    have hle:g.rules.length≤40:=by simp at e3; omega
    have hpre:∀ b,jK g g.rules 0=b→gb b=gb (om g):=fun b e=>by
      simp only[om,e1,e2,e3,e4,e5,e6,e,decide_true,Bool.true_and,Bool.not_false]
    refine bp.up g.rules.length (fun i T _=>∃ w:Int,0≤w∧w≤i∧jK g (g.rules.drop i) w=jK g g.rules 0∧T 1=.aQ (ax g) 0∧T 6=gi w∧T 62=.aL (g.rules.map bD)∧T 63=gi g.rules.length∧T 64=gi i) ?_ ?_
    · exact ⟨0,by omega,by omega,rfl,h1,rfl,rfl,rfl,rfl⟩
    rintro i k T H' hk ⟨w,hw1,hw2,hi,h1,h6,h62,h63,h64⟩
    simp (disch:=omega) only [↓wr,↓reduceIte,wq,ah,ag,ak,ab,ae,af,ai,isNil,Nat.reduceEqDiff,Nat.reduceAdd,Nat.reduceLT,Nat.reduceLeDiff,Int.reduceNeg,Int.reduceToNat,reduceCtorEq,wU,h1,h6,h62,h63,h64,ax]
    refine ar.dec (fun hc=>?_) (fun hc=>?_)
    · have hg2:g.rules[i]?=some (g.rules[i]'(by omega)):=List.getElem?_eq_getElem (by omega)
      rw[c9 (show i < g.rules.length by omega)] at hi
      have hmem:g.rules[i]'(by omega)∈g.rules:=List.getElem_mem _
      generalize g.rules[i]'(by omega)=t at hg2 hi hmem
      obtain ⟨⟨hl1,hl2⟩,hp,hr1,hr2⟩:=hg.bQ t hmem
      simp only[jK] at hi
      simp (disch:=omega) only [↓wr,↓reduceIte,wq,ah,ag,ak,ab,ae,af,ai,isNil,Nat.reduceEqDiff,Nat.reduceAdd,Nat.reduceLT,Nat.reduceLeDiff,Int.reduceNeg,Int.reduceToNat,reduceCtorEq,h1,h6,h62,h63,h64,bD,encI,List.getElem?_map,hg2]
      intro b hb
      repeat' (first | (refine ar.dec (fun _=>?_) (fun _=>?_)) | (refine ar.eq (fun _=>?_) (fun _=>?_)) | (refine ar.ne (fun _=>?_) (fun _=>?_)) | (refine ar.split (fun _=>?_) (fun _=>?_)) | (refine aN.pure (qb _ _ _) (by kernel_rfl) ?_) | (refine aN.pure (M9 g t hg ⟨hr1,hr2⟩) (by kernel_rfl) ?_) | (simp (disch:=omega) only [↓wr,↓reduceIte,wq,ah,ag,ak,ab,ae,af,ai,isNil,Nat.reduceEqDiff,Nat.reduceAdd,Nat.reduceLT,Nat.reduceLeDiff,Int.reduceNeg,Int.reduceToNat,reduceCtorEq,h1,h6,h62,h63,h64,ax,bD,encI,encS,set_set]))
      · rename_i e7 e8
        have e7':0≤t.left∧t.left≤w:=by simpa using e7
        rw[e7,e8,Bool.true_and,Bool.true_and] at hi
        have hw:IntKind.wrap .i64 (t.left+1)=t.left+1:=wrap64 (by omega) (by omega)
        refine br hk (by omega) ⟨_,by split <;> omega,by split <;> (push_cast; omega),hi,h1,?_,h62,h63,rfl⟩
        show gi (if IntKind.wrap .i64 (t.left+1) > w then IntKind.wrap .i64 (t.left+1) else w)=_
        rw[hw]
      · rename_i e7 e8
        rw[e8,Bool.and_false,Bool.false_and] at hi
        exact hpre _ hi.symm
      · rename_i e7
        rw[e7,Bool.false_and,Bool.false_and] at hi
        exact hpre _ hi.symm
    · rw[List.drop_eq_nil_of_le (by omega)] at hi
      simp only[jK] at hi
      simp (disch:=omega) only [↓wr,↓reduceIte,wq,ah,ag,ak,ab,ae,af,ai,isNil,Nat.reduceEqDiff,Nat.reduceAdd,Nat.reduceLT,Nat.reduceLeDiff,Int.reduceNeg,Int.reduceToNat,reduceCtorEq,h1,h6,h62,h63,h64,ax,encS]
      exact hpre _ hi.symm
theorem Iw (g:ay) (hg:g.Ok) (hs:g.aw.length+g.av.length≤1000):aI Tryz.prog 45 [.agg (ax g)] (gb (om g)):=aI.val (hQ g) (Le g hg hs)
theorem FP (g:ay):∀ (l:List bc) (next:Int),jK g l next=fi g l (next - 1)
  | [],next=>by
    simp only[jK,fi]
    rw[Bool.eq_iff_iff]; simp
  | r :: l,next=>by
    simp only[jK,fi,FP g l]
    have e1:(if r.left+1 > next then r.left+1 else next) - 1=if r.left > next - 1 then r.left else next - 1:=by
      split <;> split <;> omega
    have e2:next - 1+1=next:=by omega
    rw[e1,e2]
theorem yw (s:ByteArray):∀ (l:List ByteArray) (i:Int),0≤i→(l6 s l i < 0∧s ∉ l)∨∃ k:Nat,l6 s l i=i+k∧l[k]?=some s∧∀ j < k,l[j]?≠some s
  | [],i,h=>.inl ⟨by simp[l6],by simp⟩
  | x :: l,i,h=>by
    have hx:fN x s=true↔x=s:=by
      unfold fN
      rw[beq_iff_eq]
      constructor
      · intro e; cases x; cases s; simp at e; simp[e]
      · rintro rfl; rfl
    simp only[l6]
    by_cases e:x=s
    · rw[if_pos (hx.2 e)]
      exact .inr ⟨0,by simp,by simp[e],by simp⟩
    · rw[if_neg (fun h=>e (hx.1 h))]
      rcases yw s l (i+1) (by omega) with ⟨h1,h2⟩ | ⟨k,h1,h2,h3⟩
      · exact .inl ⟨h1,by simp[h2,Ne.symm e]⟩
      · refine .inr ⟨k+1,by rw[h1]; push_cast; omega,by simpa using h2,fun j hj=>?_⟩
        cases j with
        | zero=>simp[e]
        | succ j=>simpa using h3 j (by omega)
theorem r5 (l:List ByteArray):(∀ (k:Nat) (s:ByteArray),l[k]?=some s→l6 s l 0=k)↔l.Nodup:=by
  constructor
  · intro h
    rw[List.nodup_iff_pairwise_ne,List.pairwise_iff_getElem]
    intro i j hi hj hij e
    have h1:=h i l[i] (by simp[hi])
    have h2:=h j l[j] (by simp[hj])
    rw[e] at h1
    omega
  · intro hn k s hk
    rcases yw s l 0 (by omega) with ⟨_,h2⟩ | ⟨j,h1,h2,h3⟩
    · exact absurd (List.mem_of_getElem? hk) h2
    · have hj:j < l.length:=by
        rcases Nat.lt_or_ge j l.length with h | h
        · exact h
        · simp[List.getElem?_eq_none h] at h2
      have hk':k < l.length:=by
        rcases Nat.lt_or_ge k l.length with h | h
        · exact h
        · simp[List.getElem?_eq_none h] at hk
      have:j=k:=(List.getElem_inj hn).1 (by
        rw[List.getElem?_eq_getElem hj] at h2; rw[List.getElem?_eq_getElem hk'] at hk
        simp at h2 hk; rw[h2,hk])
      rw[h1,this]; simp
theorem bytes_inj {a b:ByteArray} : a.data.toList=b.data.toList↔a=b:=by
  constructor
  · intro h; cases a; cases b; simp at h; simp[h]
  · rintro rfl; rfl
theorem LN {l:List ByteArray} : (names l).Nodup↔l.Nodup:=by
  unfold names
  rw[List.nodup_iff_pairwise_ne,List.pairwise_map,List.nodup_iff_pairwise_ne]
  constructor
  · exact fun h=>h.imp fun h e=>h (bytes_inj.2 e)
  · exact fun h=>h.imp fun h e=>h (bytes_inj.1 e)
theorem nX {α:Type} [BEq α] [LawfulBEq α]:∀ (l m:List α),l.Nodup→(∀ x∈l,x∈m)→l.length≤m.length
  | [],m,_,_=>by simp
  | x :: l,m,hn,hs=>by
    rw[List.nodup_cons] at hn
    have hx:x∈m:=hs x (by simp)
    have:=nX l (m.erase x) hn.2 (fun y hy=>by
      have hne:y≠x:=by rintro rfl; exact hn.1 hy
      exact (List.mem_erase_of_ne hne).2 (hs y (by simp[hy])))
    rw[List.length_erase_of_mem hx] at this
    have:0 < m.length:=List.length_pos_of_mem hx
    simp only[List.length_cons]
    omega
def jM (n:Nat):List Int:=(List.range n).map fun (k:Nat)=>(k:Int)+1
theorem vR {n:Nat} {x:Int} : x∈jM n↔1≤x∧x≤n:=by
  simp only[jM,List.mem_map,List.mem_range]
  constructor
  · rintro ⟨k,hk,rfl⟩; omega
  · rintro ⟨h1,h2⟩; exact ⟨(x - 1).toNat,by omega,by omega⟩
theorem FE (n:Nat):(jM n).Nodup:=by
  rw[jM,List.nodup_iff_pairwise_ne,List.pairwise_map]
  exact (List.nodup_range (n:=n)).imp fun h e=>h (by omega)
theorem N3 {l:List Int} {n:Nat} (hn:l.Nodup) (hs:∀ x∈l,1≤x∧x≤n) (hl:l.length=n) {x:Int} (h1:1≤x) (h2:x≤n):x∈l:=by
  refine Classical.byContradiction fun hx=>?_
  have:=nX (x :: l) (jM n) (List.nodup_cons.2 ⟨hx,hn⟩) (fun y hy=>by
    rw[vR]
    rcases List.mem_cons.1 hy with rfl | hy
    · exact ⟨h1,h2⟩
    · exact hs y hy)
  simp[jM] at this
  omega
theorem vt (n:Int):∀ (l:List Term) (w:Int),w≠0→gK n l w=if (∀ t∈l,t.level=n→t.assoc=w) then some w else none
  | [],w,_=>by simp[gK]
  | t :: r,w,hw=>by
    simp only[gK]
    by_cases ht:t.level=n
    · rw[if_pos ht]
      by_cases ha:w=t.assoc
      · rw[if_neg (by simp[ha]),← ha,vt n r w hw]
        congr 1
        simp[ht,ha]
      · rw[if_pos ⟨hw,ha⟩,if_neg (fun h=>ha (h t (by simp) ht).symm)]
    · rw[if_neg ht,vt n r w hw]
      congr 1
      simp[ht]
theorem Bz (n:Int):∀ (l:List Term),(∀ t∈l,t.level=n→t.assoc≠0)→(fj l n=true↔∃ a,(∃ t∈l,t.level=n)∧∀ t∈l,t.level=n→t.assoc=a)
  | [],_=>by simp[fj,gK]
  | t :: r,h=>by
    by_cases ht:t.level=n
    · have ha:=h t (by simp) ht
      have e:fj (t :: r) n=match (if (∀ u∈r,u.level=n→u.assoc=t.assoc) then some t.assoc else none) with | some w=>w != 0 | none=>false:=by
        simp only[fj,gK]
        rw[if_pos ht,if_neg (by simp),vt n r _ ha]
        rfl
      rw[e]
      by_cases hr:∀ u∈r,u.level=n→u.assoc=t.assoc
      · rw[if_pos hr]
        simp only[bne_iff_ne,ne_eq,ha,not_false_eq_true,true_iff]
        refine ⟨t.assoc,⟨t,by simp,ht⟩,fun u hu hl=>?_⟩
        rcases List.mem_cons.1 hu with rfl | hu
        · rfl
        · exact hr u hu hl
      · rw[if_neg hr]
        simp only[Bool.false_eq_true,false_iff]
        rintro ⟨a,_,h2⟩
        exact hr fun u hu hl=>(h2 u (by simp[hu]) hl).trans (h2 t (by simp) ht).symm
    · have ih:=Bz n r (fun u hu=>h u (by simp[hu]))
      have e:fj (t :: r) n=fj r n:=by
        simp only[fj,gK,if_neg ht]
      rw[e,ih]
      constructor
      · rintro ⟨a,⟨u,hu,hl⟩,h2⟩
        refine ⟨a,⟨u,by simp[hu],hl⟩,fun v hv hl=>?_⟩
        rcases List.mem_cons.1 hv with rfl | hv
        · exact absurd hl ht
        · exact h2 v hv hl
      · rintro ⟨a,⟨u,hu,hl⟩,h2⟩
        rcases List.mem_cons.1 hu with rfl | hu
        · exact absurd hl ht
        · exact ⟨a,⟨u,hu,hl⟩,fun v hv=>h2 v (by simp[hv])⟩
def tX (l:List Term):Prop:=∀ t∈l,∀ u∈l,t.level=u.level→t.level≠0→t.assoc=u.assoc
theorem EC {κ β:Type} [BEq κ] [LawfulBEq κ] {k:κ} {v:β} : ∀ {a:List (κ × β)},(a.map (·.1)).Nodup→((jJ k v a).map (·.1)).Nodup∧∀ x,x∈(jJ k v a).map (·.1)↔x=k∨x∈a.map (·.1)
  | [],_=>by simp[jJ]
  | y :: a,h=>by
    simp only[List.map_cons,List.nodup_cons] at h
    obtain ⟨h1,h2⟩:=EC (k:=k) (v:=v) h.2
    simp only[jJ]
    by_cases e:k=y.1
    · simp only[e,beq_self_eq_true,if_true,List.map_cons,List.nodup_cons]
      refine ⟨h,fun x=>by simp[e]⟩
    · have:(k == y.1)=false:=by simp[e]
      rw[this]
      simp only[Bool.false_eq_true,if_false,List.map_cons,List.nodup_cons,List.mem_cons]
      refine ⟨⟨fun hm=>?_,h1⟩,fun x=>?_⟩
      · rcases (h2 _).1 hm with e' | hm
        · exact e e'.symm
        · exact h.1 hm
      · rw[h2]
        constructor
        · rintro (h | h | h) <;> simp[h]
        · rintro (h | h | h) <;> simp[h]
theorem xV:∀ (l:List Term) (a:List (Int × Int)) (top:Int),(∀ t∈l,t.level≠0→t.assoc≠0)→(∀ n v,dB a n=some v→v≠0)→(a.map (·.1)).Nodup →
    match kh l a top with
    | some (a',top')=>tX l∧(∀ t∈l,∀ v,t.level≠0→dB a t.level=some v→t.assoc=v)∧(a'.map (·.1)).Nodup∧(∀ n,n∈a'.map (·.1)↔n∈a.map (·.1)∨(n≠0∧∃ t∈l,t.level=n)) ∧
        top≤top'∧(∀ t∈l,t.level≠0→t.level≤top')∧(top'=top∨∃ t∈l,t.level=top'∧t.level≠0)
    | none=>¬ (tX l∧∀ t∈l,∀ v,t.level≠0→dB a t.level=some v→t.assoc=v)
  | [],a,top,_,_,hn=>by
    simp only[kh]
    exact ⟨fun t ht=>by simp at ht,fun t ht=>by simp at ht,hn,fun n=>by simp,by omega,fun t ht=>by simp at ht,by simp⟩
  | t :: r,a,top,h0,hv,hn=>by
    have h0r:∀ u∈r,u.level≠0→u.assoc≠0:=fun u hu=>h0 u (by simp[hu])
    simp only[kh]
    by_cases ht:t.level=0
    · rw[if_pos ht]
      have ih:=xV r a top h0r hv hn
      have one:tX (t :: r)↔tX r:=by
        constructor
        · exact fun h u hu w hw=>h u (by simp[hu]) w (by simp[hw])
        · intro h u hu w hw e hz
          rcases List.mem_cons.1 hu with rfl | hu
          · exact absurd ht hz
          · rcases List.mem_cons.1 hw with rfl | hw
            · exact absurd (e.trans ht) hz
            · exact h u hu w hw e hz
      have con:(∀ u∈t :: r,∀ v,u.level≠0→dB a u.level=some v→u.assoc=v)↔∀ u∈r,∀ v,u.level≠0→dB a u.level=some v→u.assoc=v:=by
        simp[ht]
      have mem:∀ n,(n≠0∧∃ u∈t :: r,u.level=n)↔(n≠0∧∃ u∈r,u.level=n):=fun n=>by
        constructor
        · rintro ⟨h1,u,hu,rfl⟩
          rcases List.mem_cons.1 hu with rfl | hu
          · exact absurd ht h1
          · exact ⟨h1,u,hu,rfl⟩
        · rintro ⟨h1,u,hu,rfl⟩; exact ⟨h1,u,by simp[hu],rfl⟩
      cases hs:kh r a top with
      | none=>rw[hs] at ih; rw[one,con]; exact ih
      | some x =>
        obtain ⟨a',top'⟩:=x
        rw[hs] at ih
        obtain ⟨i1,i2,i3,i4,i5,i6,i7⟩:=ih
        refine ⟨one.2 i1,con.2 i2,i3,fun n=>by rw[i4,mem],i5,?_,?_⟩
        · intro u hu hz
          rcases List.mem_cons.1 hu with rfl | hu
          · exact absurd ht hz
          · exact i6 u hu hz
        · rcases i7 with h | ⟨u,hu,h⟩
          · exact .inl h
          · exact .inr ⟨u,by simp[hu],h⟩
    · rw[if_neg ht]
      have ha:=h0 t (by simp) ht
      by_cases hc:(dB a t.level).getD 0≠0∧(dB a t.level).getD 0≠t.assoc
      · rw[if_pos hc]
        simp only
        rintro ⟨_,h2⟩
        cases hp:dB a t.level with
        | none=>simp[hp] at hc
        | some v =>
          have:=h2 t (by simp) v ht hp
          simp[hp] at hc
          exact hc.2 this.symm
      · rw[if_neg hc]
        have hcon:∀ v,dB a t.level=some v→t.assoc=v:=fun v hp=>by
          have:=hv _ _ hp
          simp[hp] at hc
          exact (hc this).symm
        have hput:∀ n,dB (jJ t.level t.assoc a) n=if n=t.level then some t.assoc else dB a n:=fun n=>by
          rw[Ek]; simp
        have hk:=EC (k:=t.level) (v:=t.assoc) hn
        have ih:=xV r (jJ t.level t.assoc a) (if t.level > top then t.level else top) h0r (fun n v hp=>by
          rw[hput] at hp
          split at hp
          · simp at hp; rw[← hp]; exact ha
          · exact hv n v hp) hk.1
        have both:(tX (t :: r)∧∀ u∈t :: r,∀ v,u.level≠0→dB a u.level=some v→u.assoc=v)↔(tX r∧∀ u∈r,∀ v,u.level≠0→dB (jJ t.level t.assoc a) u.level=some v→u.assoc=v):=by
          constructor
          · rintro ⟨h1,h2⟩
            refine ⟨fun u hu w hw=>h1 u (by simp[hu]) w (by simp[hw]),fun u hu v hz hp=>?_⟩
            rw[hput] at hp
            split at hp
            · rename_i e
              simp at hp; rw[← hp]
              exact h1 u (by simp[hu]) t (by simp) e hz
            · exact h2 u (by simp[hu]) v hz hp
          · rintro ⟨h1,h2⟩
            have h3:∀ u∈r,u.level=t.level→u.assoc=t.assoc:=fun u hu e=>h2 u hu t.assoc (by rw[e]; exact ht) (by rw[hput,if_pos e])
            refine ⟨fun u hu w hw e hz=>?_,fun u hu v hz hp=>?_⟩
            · rcases List.mem_cons.1 hu with e1 | hu2
              · rcases List.mem_cons.1 hw with e2 | hw2
                · rw[e1,e2]
                · rw[e1] at e ⊢
                  exact (h3 w hw2 e.symm).symm
              · rcases List.mem_cons.1 hw with e2 | hw2
                · rw[e2] at e ⊢
                  exact h3 u hu2 e
                · exact h1 u hu2 w hw2 e hz
            · rcases List.mem_cons.1 hu with rfl | hu
              · exact hcon v hp
              · by_cases e:u.level=t.level
                · rw[h3 u hu e]; exact hcon v (by rw[← e]; exact hp)
                · exact h2 u hu v hz (by rw[hput,if_neg e]; exact hp)
        have htop:top≤(if t.level > top then t.level else top)∧t.level≤(if t.level > top then t.level else top):=by split <;> omega
        cases hs:kh r (jJ t.level t.assoc a) (if t.level > top then t.level else top) with
        | none=>rw[hs] at ih; simp only; rw[both]; exact ih
        | some x =>
          obtain ⟨a',top'⟩:=x
          rw[hs] at ih
          obtain ⟨i1,i2,i3,i4,i5,i6,i7⟩:=ih
          obtain ⟨b1,b2⟩:=both.2 ⟨i1,i2⟩
          refine ⟨b1,b2,i3,fun n=>?_,by omega,?_,?_⟩
          · rw[i4,hk.2]
            constructor
            · rintro ((rfl | h) | ⟨h1,u,hu,h⟩)
              · exact .inr ⟨ht,t,by simp,rfl⟩
              · exact .inl h
              · exact .inr ⟨h1,u,by simp[hu],h⟩
            · rintro (h | ⟨h1,u,hu,h⟩)
              · exact .inl (.inr h)
              · rcases List.mem_cons.1 hu with rfl | hu
                · exact .inl (.inl h.symm)
                · exact .inr ⟨h1,u,hu,h⟩
          · intro u hu hz
            rcases List.mem_cons.1 hu with rfl | hu
            · omega
            · exact i6 u hu hz
          · rcases i7 with h | ⟨u,hu,h⟩
            · by_cases e:t.level > top
              · rw[if_pos e] at h; exact .inr ⟨t,by simp,h.symm,ht⟩
              · rw[if_neg e] at h; exact .inl h
            · exact .inr ⟨u,by simp[hu],h⟩
theorem AH (l:List Term) (h:∀ t∈l,jj t=true):qk l=true↔∀ t∈l,∀ n:Int,1≤n→n≤t.level→fj l n=true:=by
  have hb:∀ t∈l,0≤t.level∧(t.level≠0→t.assoc≠0):=fun t ht=>by
    have:=h t ht
    simp only[jj,Bool.and_eq_true,decide_eq_true_eq,beq_iff_eq] at this
    refine ⟨this.1.1.1.1.2,fun h1 h2=>?_⟩
    have e:=this.2
    simp[h1,h2] at e
  have hs:=xV l [] 0 (fun t ht=>(hb t ht).2) (by simp[dB]) (by simp)
  have hL:∀ n:Int,1≤n→(fj l n=true↔∃ a,(∃ t∈l,t.level=n)∧∀ t∈l,t.level=n→t.assoc=a):=fun n hn=>Bz n l (fun t ht e=>(hb t ht).2 (by omega))
  unfold qk
  cases hx:kh l [] 0 with
  | none =>
    rw[hx] at hs
    simp only[Bool.false_eq_true,false_iff]
    intro hall
    refine hs ⟨fun t ht u hu e hz=>?_,fun t ht v _ hp=>by simp[dB] at hp⟩
    have h1:=hb t ht
    obtain ⟨a,_,h2⟩:=(hL t.level (by omega)).1 (hall t ht t.level (by omega) (by omega))
    exact (h2 t ht rfl).trans (h2 u hu e.symm).symm
  | some x =>
    obtain ⟨a,top⟩:=x
    rw[hx] at hs
    obtain ⟨i1,_,i3,i4,i5,i6,i7⟩:=hs
    simp only[beq_iff_eq]
    have hmem:∀ n,n∈a.map (·.1)↔n≠0∧∃ t∈l,t.level=n:=fun n=>by rw[i4]; simp
    have hin:∀ x∈a.map (·.1),1≤x∧x≤(top.toNat:Int):=fun x hx=>by
      obtain ⟨h1,t,ht,rfl⟩:=(hmem x).1 hx
      have:=(hb t ht).1
      have:=i6 t ht h1
      omega
    constructor
    · intro hlen t ht n hn1 hn2
      have htop:t.level≤top:=i6 t ht (by omega)
      have hm:=N3 i3 hin (by simp; omega) hn1 (show n≤(top.toNat:Int) by omega)
      obtain ⟨hz,u,hu,rfl⟩:=(hmem n).1 hm
      exact (hL _ hn1).2 ⟨u.assoc,⟨u,hu,rfl⟩,fun w hw e=>i1 w hw u hu e (by omega)⟩
    · intro hall
      have h1:a.length≤top.toNat:=by
        have:=nX _ (jM top.toNat) i3 (fun x hx=>vR.2 (hin x hx))
        simpa [jM] using this
      have h2:top.toNat≤a.length:=by
        rcases i7 with e | ⟨t,ht,e,hz⟩
        · subst e; simp
        · have:=nX (jM top.toNat) (a.map (·.1)) (FE _) (fun x hx=>by
            rw[vR] at hx
            have:=(hb t ht).1
            obtain ⟨_,⟨u,hu,hl⟩,_⟩:=(hL x hx.1).1 (hall t ht x hx.1 (by omega))
            exact (hmem x).2 ⟨by omega,u,hu,hl⟩)
          simpa [jM] using this
      omega
theorem A9 (g:ay):∀ (l:List Term) (i:Int),hE g l i=true↔∀ (k:Nat) (t:Term),l[k]?=some t→iA g (i+k) t=true
  | [],i=>by simp[hE]
  | t :: r,i=>by
    simp only[hE,Bool.and_eq_true,A9 g r (i+1)]
    constructor
    · rintro ⟨h1,h2⟩ k u hk
      cases k with
      | zero=>simp at hk; subst hk; simpa using h1
      | succ k =>
        have:=h2 k u (by simpa using hk)
        rw[show i+((k+1:Nat):Int)=i+1+k by push_cast; omega]; exact this
    · intro h
      refine ⟨by simpa using h 0 t rfl,fun k u hk=>?_⟩
      have:=h (k+1) u (by simpa using hk)
      rw[show i+1+(k:Int)=i+((k+1:Nat):Int) by push_cast; omega]; exact this
theorem sg (g:ay):∀ (l:List ByteArray) (i:Int),qa g l i=true↔∀ (k:Nat) (s:ByteArray),l[k]?=some s→jE g (i+k) s=true
  | [],i=>by simp[qa]
  | t :: r,i=>by
    simp only[qa,Bool.and_eq_true,sg g r (i+1)]
    constructor
    · rintro ⟨h1,h2⟩ k u hk
      cases k with
      | zero=>simp at hk; subst hk; simpa using h1
      | succ k =>
        have:=h2 k u (by simpa using hk)
        rw[show i+((k+1:Nat):Int)=i+1+k by push_cast; omega]; exact this
    · intro h
      refine ⟨by simpa using h 0 t rfl,fun k u hk=>?_⟩
      have:=h (k+1) u (by simpa using hk)
      rw[show i+1+(k:Int)=i+((k+1:Nat):Int) by push_cast; omega]; exact this
theorem Dk (g:ay) (s:ByteArray):j5 g s < 0↔s ∉ g.av.map Term.name:=by
  unfold j5
  rcases yw s (g.av.map Term.name) 0 (by omega) with ⟨h1,h2⟩ | ⟨k,h1,h2,_⟩
  · exact ⟨fun _=>h2,fun _=>h1⟩
  · constructor
    · intro h; omega
    · intro h; exact absurd (List.mem_of_getElem? h2) h
theorem DO (g:ay) (t:Term):pR g t=true↔∀ n:Int,1≤n→n≤t.level→fj g.av n=true:=by
  simp only[pR,List.all_eq_true,List.mem_range]
  constructor
  · intro h n h1 h2
    have:=h (n - 1).toNat (by omega)
    rwa [show (((n - 1).toNat:Nat):Int)+1=n by omega] at this
  · intro h k hk
    exact h _ (by omega) (by omega)
theorem Jv (g:ay):om g=bB g:=by
  rw[Bool.eq_iff_iff]
  simp only[om,bB,hO,iN,qz,Bool.and_eq_true,decide_eq_true_eq,A9,sg,FP,List.all_eq_true,Bool.not_eq_true',List.any_eq_false,Bool.not_eq_true,LN,rh,List.nodup_append,Int.zero_add,Int.zero_sub,Bool.not_not]
  have hT:(∀ (k:Nat) (t:Term),g.av[k]?=some t→iA g k t=true)↔(∀ t∈g.av,jj t=true)∧(g.av.map Term.name).Nodup∧(∀ t∈g.av,pR g t=true):=by
    rw[← r5]
    constructor
    · intro h
      have h':∀ t∈g.av,∃ k:Nat,g.av[k]?=some t:=fun t ht=>List.getElem?_of_mem ht
      refine ⟨fun t ht=>?_,fun k s hk=>?_,fun t ht=>?_⟩
      · obtain ⟨k,hk⟩:=h' t ht
        have:=h k t hk
        simp only[iA,jj,Bool.and_eq_true,decide_eq_true_eq] at this ⊢
        simp[this]
      · rw[List.getElem?_map,Option.map_eq_some_iff] at hk
        obtain ⟨t,hk,rfl⟩:=hk
        have:=h k t hk
        simp only[iA,Bool.and_eq_true,beq_iff_eq] at this
        exact this.1.1.1.1.1.1.2
      · obtain ⟨k,hk⟩:=h' t ht
        have:=h k t hk
        simp only[iA,Bool.and_eq_true] at this
        exact this.2
    · rintro ⟨h1,h2,h3⟩ k t hk
      have hm:=List.mem_of_getElem? hk
      have a:=h1 t hm
      have b:=h2 k t.name (by rw[List.getElem?_map,hk]; rfl)
      have c:=h3 t hm
      simp only[iA,jj,j5,Bool.and_eq_true,decide_eq_true_eq] at a ⊢
      simp[a,b,c]
  have hN:(∀ (k:Nat) (s:ByteArray),g.aw[k]?=some s→jE g k s=true)↔(∀ s∈g.aw,eO (dR s)=true)∧g.aw.Nodup∧(∀ s∈g.aw,s ∉ g.av.map Term.name):=by
    rw[← r5]
    constructor
    · intro h
      have h':∀ t∈g.aw,∃ k:Nat,g.aw[k]?=some t:=fun t ht=>List.getElem?_of_mem ht
      refine ⟨fun t ht=>?_,fun k s hk=>?_,fun t ht=>?_⟩
      · obtain ⟨k,hk⟩:=h' t ht
        have:=h k t hk
        simp only[jE,Bool.and_eq_true] at this
        exact this.1.1
      · have:=h k s hk
        simp only[jE,x7,Bool.and_eq_true,beq_iff_eq] at this
        exact this.1.2
      · obtain ⟨k,hk⟩:=h' t ht
        have:=h k t hk
        simp only[jE,Bool.and_eq_true,decide_eq_true_eq] at this
        exact (Dk g t).1 this.2
    · rintro ⟨h1,h2,h3⟩ k s hk
      have hm:=List.mem_of_getElem? hk
      have a:=h1 s hm
      have b:=h2 k s hk
      have c:=(Dk g s).2 (h3 s hm)
      simp[jE,x7,a,b,c]
  rw[hT,hN]
  constructor
  · rintro ⟨⟨⟨⟨⟨⟨⟨⟨t1,t2⟩,t3⟩,n1,n2⟩,r1,r2⟩,a1,a2,a3⟩,s1,s2⟩,n3⟩,ru⟩
    have hl:=(AH g.av t1).1 t3
    exact ⟨⟨⟨⟨⟨⟨⟨t2,t1,a2,fun t ht=>(DO g t).2 (hl t ht)⟩,⟨by omega,by omega⟩,fun s hs=>by simpa using n3 s hs,a1,fun s hs hm=>a3 s hs s hm rfl⟩,by omega⟩,by omega⟩,s1⟩,by omega⟩,ru⟩
  · rintro ⟨⟨⟨⟨⟨⟨⟨t2,t1,a2,t3⟩,⟨n1,n2⟩,n3,a1,a3⟩,r1⟩,r2⟩,s1⟩,s2⟩,ru⟩
    have hl:=(AH g.av t1).2 (fun t ht=>(DO g t).1 (t3 t ht))
    exact ⟨⟨⟨⟨⟨⟨⟨⟨t1,t2⟩,hl⟩,by omega,by omega⟩,by omega,by omega⟩,a1,a2,fun s hs u hu e=>a3 s hs (e ▸ hu)⟩,s1,by omega⟩,fun s hs=>by simp[n3 s hs]⟩,ru⟩
theorem DH (g:ay) (hg:g.Ok) (hs:g.aw.length+g.av.length≤1000):aI Tryz.prog 45 [.agg (ax g)] (gb (bB g)):=by
  rw[← Jv]; exact Iw g hg hs
def PZ (n:Nat) (r:bc):Prop:=bJ r.left∧0≤r.left∧r.left < n∧r.right.length≤6∧∀ s∈r.right,bJ s∧(s < 0→-1 - s < n)
theorem ay.sq.K1 {g:ay} (hg:g.Ok) (h:g.sq) {r:bc} (hr:r∈g.rules):PZ g.aw.length r :=
  ⟨(hg.bQ r hr).1,(h.left r hr).1,(h.left r hr).2,h.right r hr,fun s hs=>⟨(hg.bQ r hr).2.2.2 s hs,fun hn=>h.neg hr hs hn⟩⟩
theorem vl {h:aH} {u:V} {l:List Int} (ho:bj h.view u 1 (l.map fun x=>[gi x])):cK h u (encI l):=cK.Ms (f:=Value.int .i64) ho
def Fl (l:List Int):List Int:=(l.filter fun s=>decide (s < 0)).map fun s=>-1 - s
def Ec (is:List Bool) (l:List Int):List Bool:=l.foldl (fun is n=>is.set n.toNat true) is
def stepG (comes:bc→List Bool→List Int) (is:List Bool) (r:bc):List Bool:=Ec is (comes r is)
def fk (comes:bc→List Bool→List Int) (rules:List bc) (is:List Bool):List Bool:=rules.foldl (stepG comes) is
def fT (a b:List Bool):Prop:=a.length=b.length∧∀ i,a.getD i false=true→b.getD i false=true
theorem fT.refl (a:List Bool):fT a a:=⟨rfl,fun _ h=>h⟩
theorem fT.trans {a b c:List Bool} (h:fT a b) (k:fT b c):fT a c:=⟨h.1.trans k.1,fun i hi=>k.2 i (h.2 i hi)⟩
theorem fT.set (a:List Bool) (i:Nat):fT a (a.set i true):=by
  refine ⟨by simp,fun j h=>?_⟩
  simp only[List.getD_eq_getElem?_getD,List.getElem?_set] at h ⊢
  split
  · split
    · rfl
    · rename_i e h2; rw[← e,List.getElem?_eq_none (by omega)] at h; simp at h
  · exact h
theorem FG:∀ (l:List Int) (is:List Bool),fT is (Ec is l)
  | [],is=>.refl _
  | n :: l,is=>(fT.set is n.toNat).trans (FG l _)
theorem x9 (comes:bc→List Bool→List Int):∀ (rules:List bc) (is:List Bool),fT is (fk comes rules is)
  | [],is=>.refl _
  | r :: rs,is=>(FG _ _).trans (x9 comes rs _)
def fV (a:List Bool):Nat:=a.countP fun x=>x
theorem Gb (a:List Bool):fV a≤a.length:=List.countP_le_length
theorem fT.fV:∀ {a b:List Bool},fT a b→fV a≤fV b∧(fV a=fV b→a=b)
  | [],[],_=>⟨Nat.le_refl _,fun _=>rfl⟩
  | [],_ :: _,h=>by simp[fT] at h
  | _ :: _,[],h=>by simp[fT] at h
  | x :: a,y :: b,h=>by
    have hxy:x=true→y=true:=fun e=>by have:=h.2 0 (by simpa using e); simpa using this
    obtain ⟨h1,h2⟩:=fT.fV (a:=a) (b:=b) ⟨by simpa using h.1,fun i hi=>by have:=h.2 (i+1) (by simpa using hi); simpa using this⟩
    unfold Gv.fV at h1 h2 ⊢
    simp only[List.countP_cons]
    cases x with
    | true =>
      have:=hxy rfl; subst this
      simp only[if_true]
      exact ⟨by omega,fun e=>by rw[h2 (by omega)]⟩
    | false =>
      cases y with
      | false=>simp only[Bool.false_eq_true,if_false]; exact ⟨by omega,fun e=>by rw[h2 (by omega)]⟩
      | true=>simp only[Bool.false_eq_true,if_false,if_true]; exact ⟨by omega,fun e=>by omega⟩
def nC (comes:bc→List Bool→List Int) (rules:List bc):Nat→List Bool→List Bool
  | 0,is=>is
  | k+1,is=>if fk comes rules is=is then is else nC comes rules k (fk comes rules is)
theorem rK (comes:bc→List Bool→List Int) (rules:List bc):∀ (k:Nat) (is:List Bool),is.length≤fV is+k→fk comes rules (nC comes rules k is)=nC comes rules k is∧fT is (nC comes rules k is)
  | 0,is,h=>by
    have h1:=x9 comes rules is
    have h2:=Gb (fk comes rules is)
    have h3:=h1.fV
    rw[← h1.1] at h2
    have h4:=Gb is
    exact ⟨(h3.2 (by omega)).symm,.refl _⟩
  | k+1,is,h=>by
    simp only[nC]
    by_cases e:fk comes rules is=is
    · rw[if_pos e]; exact ⟨e,.refl _⟩
    · rw[if_neg e]
      have h1:=x9 comes rules is
      have h3:=h1.fV
      have:fV is < fV (fk comes rules is):=by
        rcases Nat.lt_or_ge (fV is) (fV (fk comes rules is)) with h | h
        · exact h
        · exact absurd (h3.2 (by omega)).symm e
      obtain ⟨g1,g2⟩:=rK comes rules k (fk comes rules is) (by rw[← h1.1]; omega)
      exact ⟨g1,h1.trans g2⟩
theorem z7 {α:Type} {f:α→α} {x:α} (h:f x=x):∀ n,iter f n x=x
  | 0=>rfl
  | n+1=>by rw[iter,h,z7 h n]
theorem Fs {α:Type} (f:α→α):∀ (a b:Nat) (x:α),iter f (a+b) x=iter f b (iter f a x)
  | 0,b,x=>by rw[Nat.zero_add]; rfl
  | a+1,b,x=>by rw[Nat.add_right_comm,iter,iter,Fs f a b]
theorem Bd (comes:bc→List Bool→List Int) (rules:List bc):∀ (k:Nat) (is:List Bool),nC comes rules k is=iter (fk comes rules) k is
  | 0,is=>rfl
  | k+1,is=>by
    simp only[nC,iter]
    by_cases e:fk comes rules is=is
    · rw[if_pos e,e,z7 e]
    · rw[if_neg e,Bd comes rules k]
theorem yx (comes:bc→List Bool→List Int) (rules:List bc) (is:List Bool) (h:is.length≤16):nC comes rules 16 is=iter (fk comes rules) is.length is:=by
  have h1:=(rK comes rules is.length is (by omega)).1
  rw[Bd] at h1 ⊢
  obtain ⟨m,hm⟩:∃ m,16=is.length+m:=⟨16 - is.length,by omega⟩
  rw[hm,Fs,z7 h1]
def Bi (t:Bool) (r:bc) (is:List Bool):List Int:=if dP r.right is t=true then [r.left] else []
def BN (p:List Bool) (r:bc) (is:List Bool):List Int:=if (is.getD r.left.toNat false && dP r.right p true)=true then Fl r.right else []
theorem Hj (g:ay) (t:Bool):fk (Bi t) g.rules=hU g t:=by
  funext is
  unfold fk hU
  congr 1
  funext is r
  unfold stepG Bi cW
  split <;> rfl
theorem BE:∀ (l:List Int) (is:List Bool),Ec is (Fl l)=l.foldl mark is
  | [],is=>rfl
  | s :: l,is=>by
    have ih:=BE l
    unfold Ec Fl at ih ⊢
    rw[List.foldl_cons,← ih]
    unfold mark
    by_cases h:s < 0
    · rw[if_pos h,List.filter_cons_of_pos (by simpa using h)]; rfl
    · rw[if_neg h,List.filter_cons_of_neg (by simpa using h)]
theorem G0 (g:ay) (p:List Bool):fk (BN p) g.rules=lC g p:=by
  funext is
  unfold fk lC
  congr 1
  funext is r
  unfold stepG BN ej
  split
  · exact BE _ _
  · rfl
theorem O2 {g:ay} (h:bB g=true) (t:Bool):nC (Bi t) g.rules 16 (cw g)=aV g t:=by
  have hf:=bI h
  have hl:(cw g).length=g.aw.length:=by simp[cw]
  have:=hf.aw
  rw[yx _ _ _ (by rw[hl]; exact hf.aw),Hj,hl,aV,if_pos h]
theorem PV {g:ay} (h:bB g=true):nC (BN (aV g true)) g.rules 16 ((cw g).set g.start.toNat true)=bN g:=by
  have hf:=bI h
  have hl:((cw g).set g.start.toNat true).length=g.aw.length:=by simp[cw]
  rw[yx _ _ _ (by rw[hl]; exact hf.aw),G0,hl,bN,if_pos h]
structure ay.Small (g:ay):Prop where
  names:g.aw.length+g.av.length≤1000
theorem zw {g:ay} (hr:bB g=true):(bN g).length=g.aw.length:=by
  rw[bN,if_pos hr,AD (f:=lC g (aV g true)) (fun is=>Ah (fun is x=>J5 _ is x) g.rules is)]
  simp[cw]
def bO (p q:List Bool) (r:bc):Bool:=q.getD r.left.toNat false && dP r.right p true
def cX (p q:List Bool):List bc→Int→List Int
  | [],_=>[]
  | r :: l,i=>if bO p q r=true then i :: cX p q l (i+1) else cX p q l (i+1)
def dO (acc:List Int) (r:bc):List Int:=if r.left∈acc then acc else acc ++ [r.left]
def cJ (p q:List Bool) (l:List bc):List Int:=(l.filter (bO p q)).foldl dO []
def bk (o:List Int) (x:Int):Int:=bR (fun y=>y == x) o 0
def bE (f:Int→Int) (r:bc):bc:=⟨f r.left,r.right.map fun s=>if s < 0 then -1 - f (-1 - s) else s,r.prec⟩
def sw (g:ay) (f:Int→Int) (p q:List Bool):ay :=
  ⟨g.av,(cJ p q g.rules).map fun x=>g.aw.getD x.toNat ⟨#[]⟩,(g.rules.filter (bO p q)).map (bE f),f g.start⟩
def NG:ay:=⟨[],[],[],0⟩
instance:DecidableEq Term:=fun a b=>decidable_of_iff (a.name=b.name∧a.level=b.level∧a.assoc=b.assoc) (by cases a; cases b; simp)
instance:DecidableEq bc:=fun a b=>decidable_of_iff (a.left=b.left∧a.prec=b.prec∧a.right=b.right) (by cases a; cases b; simp[and_comm])
instance:DecidableEq ay:=fun a b=>decidable_of_iff (a.av=b.av∧a.aw=b.aw∧a.rules=b.rules∧a.start=b.start) (by cases a; cases b; simp)
def iF (g:ay):ay × List Int × Int :=
  if bB g=true then
    if (aV g true).getD g.start.toNat false=true then (sw g (bk (cJ (aV g true) (bN g) g.rules)) (aV g true) (bN g),cX (aV g true) (bN g) g.rules 0,0)
    else (NG,[],9)
  else (NG,[],1)
theorem yN {g:ay} (hr:bB g=true):iF g=if (aV g true).getD g.start.toNat false=true then (sw g (bk (cJ (aV g true) (bN g) g.rules)) (aV g true) (bN g),cX (aV g true) (bN g) g.rules 0,0) else (NG,[],9):=by
  rw[iF,if_pos hr]
theorem qV (p q:List Bool):∀ (a b:List bc) (i:Int),cX p q (a ++ b) i=cX p q a i ++ cX p q b (i+a.length)
  | [],b,i=>by simp[cX]
  | r :: a,b,i=>by
    simp only[List.cons_append,cX,qV p q a b (i+1),List.length_cons]
    have:i+1+(a.length:Int)=i+((a.length+1:Nat):Int):=by push_cast; omega
    rw[this]
    split <;> simp
theorem rN (p q:List Bool):∀ (a:List bc) (i:Int),(cX p q a i).length=(a.filter (bO p q)).length
  | [],i=>rfl
  | r :: a,i=>by
    simp only[cX,List.filter_cons]
    split <;> simp[rN p q a]
theorem yO (p q:List Bool):∀ (a:List bc) (i:Int) (k:Nat),k < (cX p q a i).length→∃ m:Nat,(cX p q a i)[k]?=some (i+m)∧a[m]?=(a.filter (bO p q))[k]?∧m < a.length
  | [],i,k,h=>by simp[cX] at h
  | r :: a,i,k,h=>by
    simp only[cX,List.filter_cons] at h ⊢
    by_cases hr:bO p q r=true
    · rw[if_pos hr] at h ⊢
      rw[if_pos hr]
      cases k with
      | zero=>exact ⟨0,by simp,by simp,by simp⟩
      | succ k =>
        obtain ⟨m,h1,h2,h3⟩:=yO p q a (i+1) k (by simpa using h)
        exact ⟨m+1,by rw[List.getElem?_cons_succ,h1]; congr 1; push_cast; omega,by simpa using h2,by simpa using h3⟩
    · rw[if_neg hr] at h ⊢
      rw[if_neg hr]
      obtain ⟨m,h1,h2,h3⟩:=yO p q a (i+1) k h
      exact ⟨m+1,by rw[h1]; congr 1; push_cast; omega,by simpa using h2,by simpa using h3⟩
theorem CG (p q:List Bool) (l:List bc) (r:bc):cJ p q (l ++ [r])=if bO p q r=true then dO (cJ p q l) r else cJ p q l:=by
  unfold cJ
  rw[List.filter_append]
  by_cases h:bO p q r=true
  · rw[if_pos h,List.filter_cons_of_pos h,List.foldl_append]; rfl
  · rw[if_neg h,List.filter_cons_of_neg h]; simp
theorem IC {acc:List Int} {r:bc} (h:acc.Nodup):(dO acc r).Nodup:=by
  unfold dO
  split
  · exact h
  · rename_i hn
    rw[List.nodup_append]
    exact ⟨h,by simp,fun a ha b hb e=>hn (by simp at hb; rw[← hb,← e]; exact ha)⟩
theorem qP {o:List Int} {x:Int} : bk o x < 0↔x ∉ o:=by
  have:=iK (fun y=>y == x) o 0 (by omega)
  unfold bk
  rw[← Int.not_le]
  constructor
  · intro h hx
    have e:(o.any fun y=>y == x)=true:=List.any_eq_true.2 ⟨x,hx,by simp⟩
    rw[e] at this; exact h (by simpa using this)
  · intro h hx
    have e:(o.any fun y=>y == x)=true:=by rw[← this]; simpa using hx
    obtain ⟨y,hy,e⟩:=List.any_eq_true.1 e
    simp at e; subst e; exact h hy
theorem sy {α:Type} (p:α→Bool):∀ (a b:List α) (i:Int),0≤i→bR p (a ++ b) i=if 0≤bR p a i then bR p a i else bR p b (i+a.length)
  | [],b,i,_=>by simp[bR]
  | x :: a,b,i,h=>by
    by_cases hp:p x=true
    · simp[bR,hp,h]
    · simp only[List.cons_append,bR,if_neg hp]
      rw[sy p a b (i+1) (by omega)]
      have:i+1+(a.length:Int)=i+(((x :: a).length:Nat):Int):=by simp; omega
      rw[this]
theorem Kf {o:List Int} {x y:Int} (hx:x ∉ o):bk (o ++ [x]) y=if y=x then (o.length:Int) else bk o y:=by
  unfold bk
  rw[sy _ _ _ _ (by omega)]
  by_cases e:y=x
  · subst e
    rw[if_neg (by have:=qP.2 hx; unfold bk at this; omega),if_pos rfl]
    simp[bR]
  · rw[if_neg e]
    split
    · rfl
    · rename_i h
      have:bk o y < 0:=by unfold bk; omega
      have h2:bR (fun z=>z == y) [x] (0+(o.length:Int)) = -1:=by simp[bR,Ne.symm e]
      rw[h2]
      have:∀ (l:List Int) (i:Int),¬ 0≤bR (fun z=>z == y) l i→0≤i→bR (fun z=>z == y) l i = -1:=by
        intro l
        induction l with
        | nil=>intro i _ _; rfl
        | cons z l ih =>
          intro i h1 h2
          simp only[bR] at h1 ⊢
          split
          · rename_i hz; rw[if_pos hz] at h1; omega
          · rename_i hz; rw[if_neg hz] at h1; exact ih _ h1 (by omega)
      exact (this o 0 h (by omega)).symm
theorem kL {o:List Int} {x:Int} (h:x∈o):0≤bk o x∧bk o x < o.length:=by
  have h0:¬ bk o x < 0:=fun e=>qP.1 e h
  refine ⟨by omega,?_⟩
  unfold bk
  have:∀ (l:List Int) (i:Int),bR (fun z=>z == x) l i < i+l.length∨bR (fun z=>z == x) l i = -1:=by
    intro l
    induction l with
    | nil=>intro i; right; rfl
    | cons z l ih =>
      intro i
      simp only[bR]
      split
      · left; simp; omega
      · rcases ih (i+1) with h | h
        · left; simp at h ⊢; omega
        · right; exact h
  rcases this o 0 with h1 | h1
  · simpa using h1
  · unfold bk at h0; omega
theorem Cx (o:List Int) (x:Int) : -1≤bk o x∧bk o x≤o.length:=by
  by_cases h:x∈o
  · have:=kL h; omega
  · have h1:=qP.2 h
    have h2:∀ (l:List Int) (i:Int),0≤i→-1≤bR (fun z=>z == x) l i:=by
      intro l
      induction l with
      | nil=>intro i _; simp[bR]
      | cons z l ih =>
        intro i hi
        simp only[bR]
        split
        · omega
        · exact ih _ (by omega)
    have:=h2 o 0 (by omega)
    unfold bk at h1 ⊢
    omega
def jN:SC :=
  .seq (.seq (aq [aa 42 9,aa 43 8,aA 44 43,aC 45 .lss 42 44]) <|
  .cond (.tmp 45) (.skip) (.exit 0)) <|
  .seq (.block 1 (aq [aa 48 8,aa 49 9,aD 50 1 48 49,(none,.op (.store 1 (.tmp 50) (.val (.val (.int .i64 (-1))))))])) <|
  aq [aa 46 9,au 47 .add 46 1,aa 9 47]
def jQ:SC :=
  .seq (.seq (aq [aa 51 11,ao 52 2 1,an 53 52,aA 54 53,aC 55 .lss 51 54]) <|
  .cond (.tmp 55) (.skip) (.exit 2)) <|
  .seq (.block 3 (.seq (aq [ao 58 2 1,an 59 58,aa 60 11,aD 61 3 59 60,aF 62 3 61,((some 12),.op (.alloc [(.val (.int .i64 0)),(.emp 1),(.val (.int .i64 0))])),(none,.op (.store 3 (.tmp 12) (.tmp 62)))]) <|
  .seq (.seq (.region false [⟨none,[aa 63 6,ao 64 0 12,an 65 64,aD 66 1 63 65,an 67 66,bC 68 67,aa 69 68]⟩,⟨(some (69,false)),[ao 70 1 12,an 71 70,aa 72 5,b6 73 117 [(.tmp 71),(.tmp 72),(.val (.val (.bool true)))],bC 74 73]⟩,⟨none,[aS 75 69 74]⟩]) <|
  .cond (.tmp 75) (.exit 3) (.skip)) <|
  .seq (aq [aa 76 10,aa 77 11,((some 78),.op (.aT 1 1 [(.val (.int .i64 0))] [(0,(.tmp 77))])),((some 79),.op (.app 1 8 (.tmp 76) (.tmp 78))),aa 10 79]) <|
  .seq (aq [aa 80 8,ao 81 0 12,an 82 81,aD 83 1 80 82,an 84 83,au 85 .lss 84 0]) <|
  .cond (.tmp 85) (.seq (aq [aa 86 8,ao 87 0 12,an 88 87,ao 89 1 7,an 90 89,aA 91 90,aD 92 1 86 88,(none,.op (.store 1 (.tmp 92) (.tmp 91)))]) <|
  .region false [⟨none,[ao 93 1 7,an 94 93,ao 95 1 1,an 96 95,ao 97 0 12,an 98 97,aD 99 1 96 98,an 100 99,((some 101),.op (.aT 1 1 [(.val (.string ⟨#[]⟩))] [(0,(.tmp 100))])),((some 102),.op (.app 1 16 (.tmp 94) (.tmp 101))),ao 103 1 7,(none,.op (.store 1 (.tmp 103) (.tmp 102)))]⟩]) (.skip))) <|
  aq [aa 56 11,au 57 .add 56 1,aa 11 57]
def jV:SC :=
  .seq (.seq (aq [aa 126 16,ao 127 1 14,an 128 127,aA 129 128,aC 130 .lss 126 129]) <|
  .cond (.tmp 130) (.skip) (.exit 6)) <|
  .seq (.block 7 (.seq (aq [ao 133 1 14,an 134 133,aa 135 16,aD 136 1 134 135,an 137 136,aa 17 137]) <|
  .seq (.seq (aq [aa 138 17,au 139 .lss 138 0]) <|
  .cond (.tmp 139) (aq [aa 140 8,aa 141 17,((some 142),.op (.arith .sub (.val (.val (.int .i64 (-1)))) (.tmp 141))),aD 143 1 140 142,an 144 143,((some 145),.op (.arith .sub (.val (.val (.int .i64 (-1)))) (.tmp 144))),aa 17 145]) (.skip)) <|
  aq [ao 146 1 15,an 147 146,aa 148 17,((some 149),.op (.aT 1 1 [(.val (.int .i64 0))] [(0,(.tmp 148))])),((some 150),.op (.app 1 8 (.tmp 147) (.tmp 149))),ao 151 1 15,(none,.op (.store 1 (.tmp 151) (.tmp 150)))])) <|
  aq [aa 131 16,au 132 .add 131 1,aa 16 132]
def jZ:SC :=
  .seq (.seq (aq [aa 104 13,aa 105 10,aA 106 105,aC 107 .lss 104 106]) <|
  .cond (.tmp 107) (.skip) (.exit 4)) <|
  .seq (.block 5 (.seq (aq [ao 110 2 1,an 111 110,aa 112 10,aa 113 13,aD 114 1 112 113,an 115 114,aD 116 3 111 115,aF 117 3 116,((some 14),.op (.alloc [(.val (.int .i64 0)),(.emp 1),(.val (.int .i64 0))])),(none,.op (.store 3 (.tmp 14) (.tmp 117)))]) <|
  .seq (aq [aa 118 8,ao 119 0 14,an 120 119,aD 121 1 118 120,an 122 121,ao 123 2 14,an 124 123,((some 125),.op (.build [(.val (.int .i64 0)),(.emp 1),(.val (.int .i64 0))] [(0,1,(.tmp 122)),(2,1,(.tmp 124))])),((some 15),.op (.alloc [(.val (.int .i64 0)),(.emp 1),(.val (.int .i64 0))])),(none,.op (.store 3 (.tmp 15) (.tmp 125)))]) <|
  .seq (.seq (aq [az 16 0]) <|
  .block 6 (.loop jV)) <|
  aq [ao 152 2 7,an 153 152,aF 154 3 15,((some 155),.op (.aT 1 3 [(.val (.int .i64 0)),(.emp 1),(.val (.int .i64 0))] [(0,(.tmp 154))])),((some 156),.op (.app 3 40 (.tmp 153) (.tmp 155))),ao 157 2 7,(none,.op (.store 1 (.tmp 157) (.tmp 156)))])) <|
  aq [aa 108 13,au 109 .add 108 1,aa 13 109]
def lv:SF:=⟨.seq (aq [bz 1 0,((some 2),.op (.alloc [(.emp 1),(.emp 1),(.emp 1),(.val (.int .i64 0))])),((some 3),.op (.aX (.val (.emp 1)))),az 4 0]) <|
  .seq (.seq (aq [aF 18 4 1,aJ 19 48 [18],bC 20 19]) <|
  .cond (.tmp 20) (.seq (aq [((some 21),.op (.build [(.emp 1),(.emp 1),(.emp 1),(.val (.int .i64 0))] [])),(none,.op (.store 4 (.tmp 2) (.tmp 21))),((some 3),.op (.aX (.val (.emp 1)))),az 4 1]) <|
  .ret) (.skip)) <|
  .seq (.region true [⟨none,[aF 22 4 1,aJ 23 115 [22],aF 24 4 1,aJ 25 116 [24],aa 5 23,aa 6 25]⟩]) <|
  .seq (.seq (aq [aa 26 5,ao 27 3 1,an 28 27,aD 29 1 26 28,an 30 29,bC 31 30]) <|
  .cond (.tmp 31) (.seq (aq [((some 32),.op (.build [(.emp 1),(.emp 1),(.emp 1),(.val (.int .i64 0))] [])),(none,.op (.store 4 (.tmp 2) (.tmp 32))),((some 3),.op (.aX (.val (.emp 1)))),az 4 9]) <|
  .ret) (.skip)) <|
  .seq (aq [((some 33),.op (.aX (.val (.emp 2)))),ao 34 0 1,an 35 34,((some 36),.op (.app 3 32 (.tmp 33) (.tmp 35))),((some 37),.op (.build [(.emp 1),(.emp 1),(.emp 1),(.val (.int .i64 0))] [(0,1,(.tmp 36))])),((some 7),.op (.alloc [(.emp 1),(.emp 1),(.emp 1),(.val (.int .i64 0))])),(none,.op (.store 4 (.tmp 7) (.tmp 37)))]) <|
  .seq (aq [ao 38 1 1,an 39 38,aA 40 39,((some 41),.op (.make 1 8 [(.val (.int .i64 0))] (.tmp 40) (.tmp 40))),aa 8 41]) <|
  .seq (.seq (aq [az 9 0]) <|
  .block 0 (.loop jN)) <|
  .seq (aq [((some 10),.op (.aX (.val (.emp 1))))]) <|
  .seq (.seq (aq [az 11 0]) <|
  .block 2 (.loop jQ)) <|
  .seq (.seq (aq [az 13 0]) <|
  .block 4 (.loop jZ)) <|
  .seq (aq [aa 158 8,ao 159 3 1,an 160 159,aD 161 1 158 160,an 162 161,ao 163 3 7,(none,.op (.store 1 (.tmp 163) (.tmp 162)))]) <|
  .seq (aq [aF 164 4 7,aa 165 10,(none,.op (.store 4 (.tmp 2) (.tmp 164))),aa 3 165,az 4 0]) <|
  .ret,
  [.cell 2 (some 4),.tmp 3,.tmp 4],166⟩
theorem rq:ba Tryz.prog 67 [1]=some lv:=by kernel_rfl
abbrev bb (l:List Int):List (List V):=l.map fun x=>[gi x]
abbrev rL (l:List ByteArray):List (List V):=l.map fun s=>[gs s]
theorem nh {l:List Int} {i:Nat} (h:i < l.length):(bb l).getD i []=[gi l[i]]:=by simp[List.getD_eq_getElem?_getD,h]
theorem ints_set (l:List Int) (i:Nat) (x:Int):(bb l).set i [gi x]=bb (l.set i x):=by simp[List.map_set]
theorem N8 {l:List Int} (h:0 < l.length):bb l≠[]:=by intro e; rw[List.map_eq_nil_iff] at e; rw[e] at h; simp at h
theorem w7 {α:Type} {x:α} : ∀ {l:List α} {i:Nat},i < l.length→(l.set i x).take (i+1)=l.take i ++ [x]
  | y :: l,0,_=>by simp
  | y :: l,i+1,h=>by
    have:=w7 (x:=x) (l:=l) (i:=i) (by simpa using h)
    simp only[List.set_cons_succ,List.take_succ_cons,this,List.cons_append]
def dF (n:Nat) (o:List Int):List Int:=(List.range n).map fun (x:Nat)=>bk o (x:Int)
theorem Oh (n:Nat):dF n []=List.replicate n (-1):=by
  apply List.ext_getElem
  · simp[dF]
  · intro i h1 h2
    simp[dF,bk,bR]
theorem yX {n:Nat} {o:List Int} {x:Int} (h0:0≤x) (h1:x < n):(dF n o)[x.toNat]'(by simp[dF]; omega)=bk o x:=by
  simp[dF,show ((x.toNat:Nat):Int)=x by omega]
theorem OU {n:Nat} {o:List Int} {x:Int} (h0:0≤x) (h1:x < n) (hx:x ∉ o):(dF n o).set x.toNat o.length=dF n (o ++ [x]):=by
  apply List.ext_getElem
  · simp[dF]
  · intro i h2 h3
    rw[List.getElem_set]
    simp only[dF,List.getElem_map,List.getElem_range]
    rw[Kf hx]
    by_cases e:x.toNat=i
    · rw[if_pos e,if_pos (by omega)]
    · rw[if_neg e,if_neg (by omega)]
abbrev BR:=List (V × bc)
def iS (b:BR):List (List V):=b.map fun x=>[gi x.2.left,x.1,gi x.2.prec]
def uP (b:BR):List e9:=b.map fun x=>(x.1,1,bb x.2.right)
theorem LK {h:aH} {u:V} {b:BR} (ho:bj h.view u 3 (iS b)) (hb:∀ x∈uP b,bj h.view x.1 x.2.1 x.2.2):cK h u (.aL ((b.map (·.2)).map bD)):=by
  refine cK.own ho (by simp[iS]) (fun i hi=>?_) (fun i j hi hj=>?_)
  all_goals
    simp only[iS,List.length_map] at hi
    have e1:(iS b).getD i []=[gi b[i].2.left,b[i].1,gi b[i].2.prec]:=by simp[iS,List.getD_eq_getElem?_getD,hi]
    have e2:((b.map (·.2)).map bD).getD i []=bD b[i].2:=by simp[List.getD_eq_getElem?_getD,hi]
  · rw[e1,e2]; rfl
  · rw[e1,e2]
    rw[e2] at hj
    have hm:b[i]∈b:=List.getElem_mem _
    have ho:=hb (b[i].1,1,bb b[i].2.right) (List.mem_map.2 ⟨_,hm,rfl⟩)
    match j,hj with
    | 0,_=>exact .val _
    | 1,_=>exact vl ho
    | 2,_=>exact .val _
    | n+3,hj=>exact absurd hj (by simp only[bD,List.length_cons,List.length_nil]; omega)
theorem L9 {h:aH} {u:V} {l:List ByteArray} (ho:bj h.view u 1 (rL l)):cK h u (encS l):=cK.Ms (f:=Value.string) ho
theorem Kh {h:aH} {u:V} {l:List Term} (ho:bj h.view u 3 (l.map df)):cK h u (dK l):=by
  refine cK.own ho rfl (fun _ _=>rfl) (fun i j hi hj=>?_)
  simp only[List.length_map] at hi
  have e1:(l.map df).getD i []=df l[i]:=by simp[List.getD_eq_getElem?_getD,hi]
  rw[e1] at hj ⊢
  match j,hj with
  | 0,_=>exact .val _
  | 1,_=>exact .val _
  | 2,_=>exact .val _
  | n+3,hj=>exact absurd hj (by simp only[df,List.length_cons,List.length_nil]; omega)
def F0 (x:ay × List Int × Int):V:=.bf [.agg (ax x.1),encI x.2.1,gi x.2.2]
theorem ET {h:aH} {e:Int} {k1 k2 k3 k4:Nat} : cK h (.bf [.agg [.emp k1,.emp k2,.emp k3,gi 0],.emp k4,gi e]) (F0 (NG,[],e)):=by
  refine .bf _ _ rfl fun i hi=>?_
  match i,hi with
  | 0,_ =>
    refine .agg _ _ rfl fun j hj=>?_
    match j,hj with
    | 0,_=>exact .emp _
    | 1,_=>exact .emp _
    | 2,_=>exact .emp _
    | 3,_=>exact .val _
    | n+4,hj=>exact absurd hj (by simp only[List.length_cons,List.length_nil]; omega)
  | 1,_=>exact .emp _
  | 2,_=>exact .val _
  | n+3,hi=>exact absurd hi (by simp only[List.length_cons,List.length_nil]; omega)
def Pd (g:ay) (p q:List Bool) (b2 b7 b8:Nat) (u0:V) (i:Nat) (T:Env) (H:View):Prop :=
  (∃ u1 u3:V,T 10=u3∧(∀ x∈cJ p q (g.rules.take i),0≤x∧x < g.aw.length)∧(cJ p q (g.rules.take i)).Nodup∧(cJ p q (g.rules.take i)).length≤i ∧
    bA H [(.sl b7 0 1 4,4,[[u0,u1,.emp 1,gi 0]]),(.sl b8 0 g.aw.length 1,1,bb (dF g.aw.length (cJ p q (g.rules.take i)))),(u3,1,bb (cX p q (g.rules.take i) 0)),
      (u1,1,rL ((cJ p q (g.rules.take i)).map fun x=>g.aw.getD x.toNat ⟨#[]⟩)),(u0,3,g.av.map df),(.sl b2 0 1 4,4,[[.emp 1,.emp 1,.emp 1,gi 0]])]) ∧
  T 1=.aQ (ax g) 0∧T 2=.ptr b2 0 0∧T 5=cY p∧T 6=cY q∧T 7=.ptr b7 0 0∧T 8=.sl b8 0 g.aw.length 1∧T 11=gi i
def QM (g:ay) (p q:List Bool) (b2 b7 b8:Nat) (u0 u1 u3:V) (o kl:List Int) (i:Nat) (T:Env) (H:View):Prop :=
  (∃ (u2:V) (bs:BR),bs.map (·.2)=((g.rules.filter (bO p q)).take i).map (bE (bk o)) ∧
    bA H ((.sl b7 0 1 4,4,[[u0,u1,u2,gi 0]]) :: (.sl b8 0 g.aw.length 1,1,bb (dF g.aw.length o)) :: (u3,1,bb kl) ::
      (u1,1,rL (o.map fun x=>g.aw.getD x.toNat ⟨#[]⟩)) :: (u0,3,g.av.map df) :: (u2,3,iS bs) :: (.sl b2 0 1 4,4,[[.emp 1,.emp 1,.emp 1,gi 0]]) :: uP bs)) ∧
  T 1=.aQ (ax g) 0∧T 2=.ptr b2 0 0∧T 7=.ptr b7 0 0∧T 8=.sl b8 0 g.aw.length 1∧T 10=u3∧T 13=gi i
def QG (g:ay) (b2 b7 b8 b14 b15:Nat) (u3:V) (o:List Int) (r:bc) (L:List e9) (i k:Nat) (T:Env) (H:View):Prop :=
  (∃ v:V,bA H ((.sl b15 0 1 3,3,[[gi (bk o r.left),v,gi r.prec]]) :: (v,1,bb ((bE (bk o) r).right.take k)) :: (.sl b14 0 1 3,3,[bD r]) :: L)) ∧
  T 1=.aQ (ax g) 0∧T 2=.ptr b2 0 0∧T 7=.ptr b7 0 0∧T 8=.sl b8 0 g.aw.length 1∧T 10=u3∧T 13=gi i∧T 14=.ptr b14 0 0∧T 15=.ptr b15 0 0∧T 16=gi k
theorem Ol {h:aH} {u0 u1 u2 u3:V} {x:ay × List Int × Int} {b:BR} (h0:bj h.view u0 3 (x.1.av.map df)) (h1:bj h.view u1 1 (rL x.1.aw)) (h2:bj h.view u2 3 (iS b)) (hb:∀ y∈uP b,bj h.view y.1 y.2.1 y.2.2)
    (hr:b.map (·.2)=x.1.rules) (h3:bj h.view u3 1 (bb x.2.1)):cK h (.bf [.agg [u0,u1,u2,gi x.1.start],u3,gi x.2.2]) (F0 x):=by
  refine .bf _ _ rfl fun i hi=>?_
  match i,hi with
  | 0,_ =>
    refine .agg _ _ rfl fun j hj=>?_
    match j,hj with
    | 0,_=>exact Kh h0
    | 1,_=>exact L9 h1
    | 2,_=>have:=LK h2 hb; rw[hr] at this; exact this
    | 3,_=>exact .val _
    | n+4,hj=>exact absurd hj (by simp only[List.length_cons,List.length_nil]; omega)
  | 1,_=>exact vl h3
  | 2,_=>exact .val _
  | n+3,hi=>exact absurd hi (by simp only[List.length_cons,List.length_nil]; omega)
set_option maxHeartbeats 8000000 in
theorem Gy (g:ay) (hg:g.Ok):bY Tryz.prog 67 [.agg (ax g)] (F0 (iF g)):=by
  refine bY.of (hQ g) ?_
  refine aG.of mixed rq ?_
  simp (disch:=omega) only [↓wr,↓reduceIte,wq,ah,ag,ak,ab,ae,af,ai,isNil,Nat.reduceEqDiff,Nat.reduceAdd,Nat.reduceLT,Nat.reduceLeDiff,Int.reduceNeg,Int.reduceToNat,reduceCtorEq,lv,ax,encS]
  intro b2
  try simp (disch:=omega) only [↓wr,↓reduceIte,wq,ah,ag,ak,ab,ae,af,ai,isNil,Nat.reduceEqDiff,Nat.reduceAdd,Nat.reduceLT,Nat.reduceLeDiff,Int.reduceNeg,Int.reduceToNat,reduceCtorEq,ax,encS]
  refine aN.pure (jm g hg) (by kernel_rfl) ?_
  repeat' (first | (refine ar.dec (fun _=>?_) (fun _=>?_)) | (refine ar.eq (fun _=>?_) (fun _=>?_)) | (refine ar.ne (fun _=>?_) (fun _=>?_)) | (refine ar.split (fun _=>?_) (fun _=>?_)) | (simp (disch:=omega) only [↓wr,↓reduceIte,wq,ah,ag,ak,ab,ae,af,ai,isNil,Nat.reduceEqDiff,Nat.reduceAdd,Nat.reduceLT,Nat.reduceLeDiff,Int.reduceNeg,Int.reduceToNat,reduceCtorEq,ax,encS,set_set]))
  · rename_i hr
    refine aN.pure (sf g hg) (by kernel_rfl) ?_
    simp (disch:=omega) only [↓wr,↓reduceIte,wq,ah,ag,ak,ab,ae,af,ai,isNil,Nat.reduceEqDiff,Nat.reduceAdd,Nat.reduceLT,Nat.reduceLeDiff,Int.reduceNeg,Int.reduceToNat,reduceCtorEq,ax,encS]
    refine aN.pure (Cy g hg).pure (by kernel_rfl) ?_
    have hf:=bI hr
    have h3:=hf.uR
    have h4:=hf.start
    have hpl:=sJ hr true
    have hql:=zw hr
    have hred:=yN hr
    generalize aV g true=p at hpl hred
    generalize bN g=q at hql hred
    have hps:p[g.start.toNat]?=some (p[g.start.toNat]'(by omega)):=List.getElem?_eq_getElem (by omega)
    have hpd:p.getD g.start.toNat false=p[g.start.toNat]'(by omega):=by simp[List.getD_eq_getElem?_getD,hps]
    generalize p[g.start.toNat]'(by omega)=s at hps hpd
    rw[hpd] at hred
    simp (disch:=omega) only [↓wr,↓reduceIte,wq,ah,ag,ak,ab,ae,af,ai,isNil,Nat.reduceEqDiff,Nat.reduceAdd,Nat.reduceLT,Nat.reduceLeDiff,Int.reduceNeg,Int.reduceToNat,reduceCtorEq,ax,encS,cY,List.getElem?_map,hps]
    cases s with
    | false =>
      rw[if_neg (by simp)] at hred
      simp (disch:=omega) only [↓wr,↓reduceIte,wq,ah,ag,ak,ab,ae,af,ai,isNil,Nat.reduceEqDiff,Nat.reduceAdd,Nat.reduceLT,Nat.reduceLeDiff,Int.reduceNeg,Int.reduceToNat,reduceCtorEq,ax,encS,set_set]
      rintro h' hh
      rw[hred]
      exact ET
    | true =>
      rw[if_pos rfl] at hred
      simp (disch:=omega) only [↓wr,↓reduceIte,wq,ah,ag,ak,ab,ae,af,ai,isNil,Nat.reduceEqDiff,Nat.reduceAdd,Nat.reduceLT,Nat.reduceLeDiff,Int.reduceNeg,Int.reduceToNat,reduceCtorEq,ax,encS,set_set]
      have hN:=hf.aw
      have hN1:=hf.I2
      have hT:=hf.av
      have hR:=hf.rules
      refine eQ (L:=[(.sl b2 0 1 4,4,[[.emp 1,.emp 1,.emp 1,gi 0]])]) (bA.emp (bA.nil.new rfl 4 _)) (by simp[df,aU]) (by unfold aP; simp; omega) (by unfold aP; simp; omega) ?_
      intro u0 H1 ho1 _
      have c0:=ho1.head.cells
      have k0:=ho1.head.jC
      simp (disch:=omega) only [↓wr,↓reduceIte,wq,ah,ag,ak,ab,ae,af,ai,isNil,Nat.reduceEqDiff,Nat.reduceAdd,Nat.reduceLT,Nat.reduceLeDiff,Int.reduceNeg,Int.reduceToNat,reduceCtorEq,ax,encS,c0,k0]
      intro b7 hb7
      have ho2:=ho1.new hb7 4 [[u0,.emp 1,.emp 1,gi 0]]
      try simp (disch:=omega) only [↓wr,↓reduceIte,wq,ah,ag,ak,ab,ae,af,ai,isNil,Nat.reduceEqDiff,Nat.reduceAdd,Nat.reduceLT,Nat.reduceLeDiff,Int.reduceNeg,Int.reduceToNat,reduceCtorEq,ax,encS,c0,k0,set_set]
      refine ⟨⟨by omega,by unfold aP; omega,by unfold aP; omega⟩,fun h=>by omega,?_⟩
      intro _ b8 hb8
      have hb87:=(dq hb8 cU).1
      have ho3:=ho2.new (n:=b8) (by simp only[View.set,if_neg hb87]; exact (dq (dq hb8 cU).2 cU).2) 1 (bb (List.replicate g.aw.length 0))
      try simp (disch:=omega) only [↓wr,↓reduceIte,wq,ah,ag,ak,ab,ae,af,ai,isNil,Nat.reduceEqDiff,Nat.reduceAdd,Nat.reduceLT,Nat.reduceLeDiff,Int.reduceNeg,Int.reduceToNat,reduceCtorEq,ax,encS,c0,k0,set_set]
      refine bp.up g.aw.length (fun i T H=>(∃ l:List Int,l.length=g.aw.length∧l.take i=List.replicate i (-1) ∧
        bA H [(.sl b8 0 g.aw.length 1,1,bb l),(.sl b7 0 1 4,4,[[u0,.emp 1,.emp 1,gi 0]]),(u0,3,g.av.map df),(.sl b2 0 1 4,4,[[.emp 1,.emp 1,.emp 1,gi 0]])]) ∧
        T 1=.aQ (ax g) 0∧T 2=.ptr b2 0 0∧T 5=cY p∧T 6=cY q∧T 7=.ptr b7 0 0∧T 8=.sl b8 0 g.aw.length 1∧T 9=gi i) ?_ ?_
      · exact ⟨⟨List.replicate g.aw.length 0,by simp,by simp,by simpa [set_set] using ho3⟩,rfl,rfl,rfl,rfl,rfl,rfl,rfl⟩
      rintro i k T H2 hk ⟨⟨l,hl1,hl2,ho⟩,t1,t2,t5,t6,t7,t8,t9⟩
      simp (disch:=omega) only [↓wr,↓reduceIte,wq,ah,ag,ak,ab,ae,af,ai,isNil,Nat.reduceEqDiff,Nat.reduceAdd,Nat.reduceLT,Nat.reduceLeDiff,Int.reduceNeg,Int.reduceToNat,reduceCtorEq,jN,t1,t2,t5,t6,t7,t8,t9]
      refine ar.dec (fun hc=>?_) (fun hc=>?_)
      · have hne:bb l≠[]:=by intro e; rw[List.map_eq_nil_iff] at e; rw[e] at hl1; simp at hl1; omega
        have hb:=(ho.obj hne).1
        have hbg:=nh (show i < l.length by omega)
        simp (disch:=omega) only [↓wr,↓reduceIte,wq,ah,ag,ak,ab,ae,af,ai,isNil,Nat.reduceEqDiff,Nat.reduceAdd,Nat.reduceLT,Nat.reduceLeDiff,Int.reduceNeg,Int.reduceToNat,reduceCtorEq,t1,t2,t5,t6,t7,t8,t9,hb,hbg,List.length_map]
        refine ⟨by omega,by omega,?_⟩
        refine br hk (by omega) ⟨⟨l.set i (-1),by simp[hl1],?_,?_⟩,t1,t2,t5,t6,t7,t8,rfl⟩
        · rw[w7 (by omega),hl2,List.replicate_succ']
        · rw[ints_set]
          exact ho.put (by simp) (by simp[hl1])
      · rw[List.take_of_length_le (by omega)] at hl2
        rw[hl2] at ho
        have ei:i=g.aw.length:=by omega
        subst ei
        simp (disch:=omega) only [↓wr,↓reduceIte,wq,ah,ag,ak,ab,ae,af,ai,isNil,Nat.reduceEqDiff,Nat.reduceAdd,Nat.reduceLT,Nat.reduceLeDiff,Int.reduceNeg,Int.reduceToNat,reduceCtorEq,t1,t2,t5,t6,t7,t8,t9]
        have name_in:∀ o:List Int,(o.map fun x=>g.aw.getD x.toNat ⟨#[]⟩).length=o.length:=fun o=>by simp
        refine bp.up g.rules.length (Pd g p q b2 b7 b8 u0) ?_ ?_
        · refine ⟨⟨.emp 1,.emp 1,rfl,by simp[cJ],by simp[cJ],by simp[cJ],?_⟩,t1,t2,t5,t6,t7,t8,rfl⟩
          have h4:=((((ho.emp (k:=1) (sz:=1)).emp (k:=1) (sz:=1)).at 3 (by simp)).perm (B0.symm.cons _))
          have e0:cJ p q (g.rules.take 0)=[]:=rfl
          rw[e0,Oh]
          exact h4
        clear ho t1 t2 t5 t6 t7 t8 t9 hl1 hl2
        rintro i k T H2 hk ⟨⟨u1,u3,t10,hin,hnd,holen,ho⟩,t1,t2,t5,t6,t7,t8,t11⟩
        simp (disch:=omega) only [↓wr,↓reduceIte,wq,ah,ag,ak,ab,ae,af,ai,isNil,Nat.reduceEqDiff,Nat.reduceAdd,Nat.reduceLT,Nat.reduceLeDiff,Int.reduceNeg,Int.reduceToNat,reduceCtorEq,jQ,t1,t2,t5,t6,t7,t8,t10,t11,ax]
        refine ar.dec (fun hc=>?_) (fun hc=>?_)
        · have hg2:g.rules[i]?=some (g.rules[i]'(by omega)):=List.getElem?_eq_getElem (by omega)
          have hmem:g.rules[i]'(by omega)∈g.rules:=List.getElem_mem _
          have htk:g.rules.take (i+1)=g.rules.take i ++ [g.rules[i]'(by omega)]:=by rw[List.take_add_one,hg2]; rfl
          generalize g.rules[i]'(by omega)=r at hg2 hmem htk
          obtain ⟨hl1,hl2,hl3,hr6,hsy⟩:=hf.K1 hg hmem
          have hqs:q[r.left.toNat]?=some (q[r.left.toNat]'(by omega)):=List.getElem?_eq_getElem (by omega)
          have hqd:q.getD r.left.toNat false=q[r.left.toNat]'(by omega):=by simp[List.getD_eq_getElem?_getD,hqs]
          generalize q[r.left.toNat]'(by omega)=qs at hqs hqd
          simp (disch:=omega) only [↓wr,↓reduceIte,wq,ah,ag,ak,ab,ae,af,ai,isNil,Nat.reduceEqDiff,Nat.reduceAdd,Nat.reduceLT,Nat.reduceLeDiff,Int.reduceNeg,Int.reduceToNat,reduceCtorEq,t1,t2,t5,t6,t7,t8,t10,t11,ax,bD,List.getElem?_map,hg2]
          intro b12 hb12
          have hoA:=ho.new hb12 3 [bD r]
          try simp (disch:=omega) only [↓wr,↓reduceIte,wq,ah,ag,ak,ab,ae,af,ai,isNil,Nat.reduceEqDiff,Nat.reduceAdd,Nat.reduceLT,Nat.reduceLeDiff,Int.reduceNeg,Int.reduceToNat,reduceCtorEq,t1,t2,t5,t6,t7,t8,t10,t11,bD,encI,cY,List.getElem?_map,hqs,set_set]
          have hskip:∀ (T2:Env) (H':View),bO p q r=false→H'=H2.set b12 (.arr 3 [bD r])→T2 10=u3→T2 1=.aQ (ax g) 0→T2 2=.ptr b2 0 0→T2 5=cY p→T2 6=cY q→T2 7=.ptr b7 0 0→T2 8=.sl b8 0 g.aw.length 1→T2 11=gi ((i:Int)+1) →
              ∃ k',k' < k∧Lh g.rules.length k' (Pd g p q b2 b7 b8 u0) T2 H':=by
            intro T2 H' hkr hH' a10 a1 a2 a5 a6 a7 a8 a11
            have e1:cJ p q (g.rules.take (i+1))=cJ p q (g.rules.take i):=by rw[htk,CG,if_neg (by simp[hkr])]
            have e2:cX p q (g.rules.take (i+1)) 0=cX p q (g.rules.take i) 0:=by rw[htk,qV]; simp[cX,hkr]
            refine br hk (by omega) ⟨⟨u1,u3,a10,by rw[e1]; exact hin,by rw[e1]; exact hnd,by rw[e1]; omega,by rw[e1,e2,hH']; exact hoA.tail⟩,a1,a2,a5,a6,a7,a8,by rw[a11]; rfl⟩
          cases qs with
          | false =>
            simp (disch:=omega) only [↓wr,↓reduceIte,wq,ah,ag,ak,ab,ae,af,ai,isNil,Nat.reduceEqDiff,Nat.reduceAdd,Nat.reduceLT,Nat.reduceLeDiff,Int.reduceNeg,Int.reduceToNat,reduceCtorEq,t1,t2,t5,t6,t7,t8,t10,t11]
            refine hskip _ _ (by rw[bO,hqd]; rfl) ?_ ?_ ?_ ?_ ?_ ?_ ?_ ?_ ?_
            all_goals first | exact t10 | exact t1 | exact t2 | exact t5 | exact t6 | exact t7 | exact t8 | rfl | (rw[set_set]; rfl)
          | true =>
            simp (disch:=omega) only [↓wr,↓reduceIte,wq,ah,ag,ak,ab,ae,af,ai,isNil,Nat.reduceEqDiff,Nat.reduceAdd,Nat.reduceLT,Nat.reduceLeDiff,Int.reduceNeg,Int.reduceToNat,reduceCtorEq,t1,t2,t5,t6,t7,t8,t10,t11,bD,encI,cY]
            refine aN.pure (FK r.right p true (hg.bQ r hmem).2.2.1 (fun s hs=>⟨(hsy s hs).1,fun h=>by rw[hpl]; exact (hsy s hs).2 h⟩)) (by kernel_rfl) ?_
            simp (disch:=omega) only [↓wr,↓reduceIte,wq,ah,ag,ak,ab,ae,af,ai,isNil,Nat.reduceEqDiff,Nat.reduceAdd,Nat.reduceLT,Nat.reduceLeDiff,Int.reduceNeg,Int.reduceToNat,reduceCtorEq,t1,t2,t5,t6,t7,t8,t10,t11]
            refine ar.split (fun hal=>?_) (fun hal=>?_)
            · simp (disch:=omega) only [↓wr,↓reduceIte,wq,ah,ag,ak,ab,ae,af,ai,isNil,Nat.reduceEqDiff,Nat.reduceAdd,Nat.reduceLT,Nat.reduceLeDiff,Int.reduceNeg,Int.reduceToNat,reduceCtorEq,t1,t2,t5,t6,t7,t8,t10,t11]
              have hkr:bO p q r=true:=by rw[bO,hqd,hal]; rfl
              intro m hm
              try simp (disch:=omega) only [↓wr,↓reduceIte,wq,ah,ag,ak,ab,ae,af,ai,isNil,Nat.reduceEqDiff,Nat.reduceAdd,Nat.reduceLT,Nat.reduceLeDiff,Int.reduceNeg,Int.reduceToNat,reduceCtorEq,t1,t2,t5,t6,t7,t8,t10,t11,cn]
              have hm12:=(dq hm cU).1
              have hm:=(dq (dq hm cU).2 cU).2
              have hoB:=(hoA.fresh (n:=m) (o:=.arr 1 [[gi i]]) (by simp only[View.set,if_neg hm12]; exact hm)).at 3 (by simp)
              have hkl:(cX p q (g.rules.take i) 0).length≤40:=by
                rw[rN]
                have h1:=List.length_filter_le (bO p q) (g.rules.take i)
                have h2:(g.rules.take i).length≤i:=List.length_take_le _ _
                have:=hf.rules
                omega
              refine eQ (by rw[set_set]; exact hoB) (by simp[aU]) (by unfold aP; simp at hkl ⊢; omega) (by unfold aP; simp at hkl ⊢; omega) ?_
              intro u3' H3 ho3 _
              have f12:=((ho3.at 1 (by simp)).obj (by simp)).1
              have f7:=((ho3.at 2 (by simp)).obj (by simp)).1
              have f8:=((ho3.at 3 (by simp)).obj (N8 (by simp[dF]; omega))).1
              have hu1:dh u1=some (rL ((cJ p q (g.rules.take i)).map fun x=>g.aw.getD x.toNat ⟨#[]⟩)).length:=(ho3.at 4 (by simp)).head.len
              have hbg:=nh (l:=dF g.aw.length (cJ p q (g.rules.take i))) (i:=r.left.toNat) (by simp[dF]; omega)
              rw[yX hl2 hl3] at hbg
              simp only[bD,encI] at f12
              simp (disch:=omega) only [↓wr,↓reduceIte,wq,ah,ag,ak,ab,ae,af,ai,isNil,Nat.reduceEqDiff,Nat.reduceAdd,Nat.reduceLT,Nat.reduceLeDiff,Int.reduceNeg,Int.reduceToNat,reduceCtorEq,t1,t2,t5,t6,t7,t8,t11,f12,f7,f8,hbg]
              refine ⟨by omega,by simp[dF]; omega,?_⟩
              have e2:cX p q (g.rules.take (i+1)) 0=cX p q (g.rules.take i) 0 ++ [(i:Int)]:=by
                rw[htk,qV]; simp[cX,hkr,show i≤g.rules.length by omega]
              have e1:cJ p q (g.rules.take (i+1))=dO (cJ p q (g.rules.take i)) r:=by rw[htk,CG,if_pos hkr]
              generalize cJ p q (g.rules.take i)=o at *
              generalize cX p q (g.rules.take i) 0=kl at *
              refine ar.dec (fun hlt=>?_) (fun hlt=>?_)
              · have hx:r.left ∉ o:=qP.1 hlt
                have e1':dO o r=o ++ [r.left]:=by rw[dO,if_neg hx]
                have hne78:b7≠b8:=ho3.Nt 2 3 rfl rfl (by omega)
                have hne12:b12≠b8:=ho3.Nt 1 3 rfl rfl (by omega)
                have hgn:g.aw[r.left.toNat]?=some (g.aw[r.left.toNat]'(by omega)):=List.getElem?_eq_getElem (by omega)
                have hgnd:g.aw.getD r.left.toNat ⟨#[]⟩=g.aw[r.left.toNat]'(by omega):=by simp[List.getD_eq_getElem?_getD,hgn]
                generalize g.aw[r.left.toNat]'(by omega)=nm at hgn hgnd
                simp (disch:=omega) only [↓wr,↓reduceIte,wq,ah,ag,ak,ab,ae,af,ai,isNil,Nat.reduceEqDiff,Nat.reduceAdd,Nat.reduceLT,Nat.reduceLeDiff,Int.reduceNeg,Int.reduceToNat,reduceCtorEq,t1,t2,t5,t6,t7,t8,t11,f12,f7,f8,hbg,hu1,List.length_map]
                try refine ⟨by omega,by simp[dF]; omega,?_⟩
                try simp (disch:=omega) only [↓wr,↓reduceIte,wq,ah,ag,ak,ab,ae,af,ai,isNil,Nat.reduceEqDiff,Nat.reduceAdd,Nat.reduceLT,Nat.reduceLeDiff,Int.reduceNeg,Int.reduceToNat,reduceCtorEq,t1,t2,t5,t6,t7,t8,t11,f12,f7,f8,hbg,hu1,List.length_map,hne78,hne12,ax,encS,List.getElem?_map,hgn]
                intro m2 hm2
                have hm28:=(dq hm2 cU).1
                have hm2:=(dq hm2 cU).2
                have hes:(bb (dF g.aw.length o)).set r.left.toNat [gi o.length]=bb (dF g.aw.length (o ++ [r.left])):=by rw[ints_set,OU hl2 hl3 hx]
                have ho4:=(ho3.at 3 (by simp)).put (es':=(bb (dF g.aw.length o)).set r.left.toNat [gi o.length]) (by simp) (by simp[dF])
                have ho5:=(ho4.fresh (n:=m2) (o:=.arr 1 [[gs nm]]) (by simp only[View.set,if_neg hm28]; exact hm2)).at 4 (by simp)
                have hN16:o.length≤40:=by omega
                try simp (disch:=omega) only [↓wr,↓reduceIte,wq,ah,ag,ak,ab,ae,af,ai,isNil,Nat.reduceEqDiff,Nat.reduceAdd,Nat.reduceLT,Nat.reduceLeDiff,Int.reduceNeg,Int.reduceToNat,reduceCtorEq,t1,t2,t5,t6,t7,t8,t11,f12,f7,f8,hbg,hu1,List.length_map,hne78,hne12,cn]
                refine eQ ho5 (by simp[aU]) (by unfold aP; simp; omega) (by unfold aP; simp; omega) ?_
                intro u1' H5 ho6 _
                have c1:=ho6.head.cells
                have k1:=ho6.head.jC
                have f7':=((ho6.at 4 (by simp)).obj (by simp)).1
                simp (disch:=omega) only [↓wr,↓reduceIte,wq,ah,ag,ak,ab,ae,af,ai,isNil,Nat.reduceEqDiff,Nat.reduceAdd,Nat.reduceLT,Nat.reduceLeDiff,Int.reduceNeg,Int.reduceToNat,reduceCtorEq,t1,t2,t5,t6,t7,t8,t11,f7',c1,k1]
                have ho7:=(ho6.at 4 (by simp)).put (es':=[[u0,u1',.emp 1,gi 0]]) rfl rfl
                have ho8:=(((ho7.at 4 (by simp)).tail).perm (B0.cons _))
                refine br hk (by omega) ⟨⟨u1',u3',rfl,?_,?_,?_,?_⟩,t1,t2,t5,t6,t7,t8,rfl⟩
                · rw[e1,e1']; intro x hx'; rcases List.mem_append.1 hx' with h | h
                  · exact hin x h
                  · simp at h; subst h; exact ⟨hl2,hl3⟩
                · rw[e1]; exact IC hnd
                · rw[e1,e1']; simp; omega
                · rw[e1,e1',e2]
                  have:=ho8
                  rw[hes] at this
                  simp only[List.map_append,List.map_cons,List.map_nil,hgnd]
                  exact this
              · have hx:r.left∈o:=by
                  refine Classical.byContradiction fun h=>?_
                  have:=qP.2 h
                  omega
                have e1':dO o r=o:=by rw[dO,if_pos hx]
                simp (disch:=omega) only [↓wr,↓reduceIte,wq,ah,ag,ak,ab,ae,af,ai,isNil,Nat.reduceEqDiff,Nat.reduceAdd,Nat.reduceLT,Nat.reduceLeDiff,Int.reduceNeg,Int.reduceToNat,reduceCtorEq,t1,t2,t5,t6,t7,t8,t11]
                have ho4:=(((ho3.at 1 (by simp)).tail).perm B0)
                refine br hk (by omega) ⟨⟨u1,u3',rfl,?_,?_,?_,?_⟩,t1,t2,t5,t6,t7,t8,rfl⟩
                · rw[e1,e1']; exact hin
                · rw[e1,e1']; exact hnd
                · rw[e1,e1']; omega
                · rw[e1,e1',e2]
                  simp only[List.map_append,List.map_cons,List.map_nil]
                  exact ho4
            · simp (disch:=omega) only [↓wr,↓reduceIte,wq,ah,ag,ak,ab,ae,af,ai,isNil,Nat.reduceEqDiff,Nat.reduceAdd,Nat.reduceLT,Nat.reduceLeDiff,Int.reduceNeg,Int.reduceToNat,reduceCtorEq,t1,t2,t5,t6,t7,t8,t10,t11]
              refine hskip _ _ (by rw[bO,hqd,hal]; rfl) ?_ ?_ ?_ ?_ ?_ ?_ ?_ ?_ ?_
              all_goals first | exact t10 | exact t1 | exact t2 | exact t5 | exact t6 | exact t7 | exact t8 | rfl | (rw[set_set]; rfl)
        · rw[List.take_of_length_le (by omega)] at ho hin hnd holen
          have hkl40:(cX p q g.rules 0).length≤40:=by
            rw[rN]; have h1:=List.length_filter_le (bO p q) g.rules; omega
          have hkg:=yO p q g.rules 0
          have hkln:=rN p q g.rules 0
          have hstin:g.start.toNat < (dF g.aw.length (cJ p q g.rules)).length:=by simp[dF]; omega
          have hstb:=nh hstin
          rw[yX h3 h4] at hstb
          have hrg:sw g (bk (cJ p q g.rules)) p q=⟨g.av,(cJ p q g.rules).map fun x=>g.aw.getD x.toNat ⟨#[]⟩,(g.rules.filter (bO p q)).map (bE (bk (cJ p q g.rules))),bk (cJ p q g.rules) g.start⟩:=rfl
          rw[hrg] at hred
          clear hrg
          generalize cJ p q g.rules=o at *
          generalize cX p q g.rules 0=kl at *
          simp (disch:=omega) only [↓wr,↓reduceIte,wq,ah,ag,ak,ab,ae,af,ai,isNil,Nat.reduceEqDiff,Nat.reduceAdd,Nat.reduceLT,Nat.reduceLeDiff,Int.reduceNeg,Int.reduceToNat,reduceCtorEq,t1,t2,t5,t6,t7,t8,t10,t11]
          refine bp.up kl.length (QM g p q b2 b7 b8 u0 u1 u3 o kl) ?_ ?_
          · refine ⟨⟨.emp 1,[],by simp,?_⟩,t1,t2,t7,t8,t10,rfl⟩
            exact (ho.emp (k:=1) (sz:=3)).perm (y9 [(.sl b7 0 1 4,4,[[u0,u1,.emp 1,gi 0]]),(.sl b8 0 g.aw.length 1,1,bb (dF g.aw.length o)),(u3,1,bb kl),(u1,1,rL (o.map fun x=>g.aw.getD x.toNat ⟨#[]⟩)),(u0,3,g.av.map df),(.emp 1,3,[]),(.sl b2 0 1 4,4,[[.emp 1,.emp 1,.emp 1,gi 0]])] 5 (by simp)).symm
          clear ho t1 t2 t5 t6 t7 t8 t10 t11
          rintro i k T H2 hk ⟨⟨u2,bs,hbs,ho⟩,t1,t2,t7,t8,t10,t13⟩
          have hu3:dh u3=some (bb kl).length:=(ho.own 2 rfl).len
          simp (disch:=omega) only [↓wr,↓reduceIte,wq,ah,ag,ak,ab,ae,af,ai,isNil,Nat.reduceEqDiff,Nat.reduceAdd,Nat.reduceLT,Nat.reduceLeDiff,Int.reduceNeg,Int.reduceToNat,reduceCtorEq,jZ,t1,t2,t7,t8,t10,t13,hu3,List.length_map]
          refine ar.dec (fun hc=>?_) (fun hc=>?_)
          · obtain ⟨n3,e3,hn3⟩:=(ho.own 2 rfl).sl (by simp; omega)
            rw[List.length_map] at e3
            subst e3
            obtain ⟨m,hm1,hm2,hm3⟩:=hkg i (by omega)
            have hbg:=nh (show i < kl.length by omega)
            rw[Int.zero_add] at hm1
            have hki:kl[i]'(by omega)=(m:Int):=by
              rw[List.getElem?_eq_getElem (show i < kl.length by omega)] at hm1; simpa using hm1
            rw[hki] at hbg
            have hg2:g.rules[m]?=some (g.rules[m]'hm3):=List.getElem?_eq_getElem hm3
            have hmem:g.rules[m]'hm3∈g.rules:=List.getElem_mem _
            have htk:(g.rules.filter (bO p q)).take (i+1)=(g.rules.filter (bO p q)).take i ++ [g.rules[m]'hm3]:=by
              rw[List.take_add_one,← hm2,hg2]; rfl
            generalize g.rules[m]'hm3=r at hg2 hmem htk
            obtain ⟨hl1,hl2,hl3,hr6,hsy⟩:=hf.K1 hg hmem
            simp (disch:=omega) only [↓wr,↓reduceIte,wq,ah,ag,ak,ab,ae,af,ai,isNil,Nat.reduceEqDiff,Nat.reduceAdd,Nat.reduceLT,Nat.reduceLeDiff,Int.reduceNeg,Int.reduceToNat,reduceCtorEq,t1,t2,t7,t8,t10,t13,hn3,hbg,List.length_map,ax,bD,List.getElem?_map,hg2]
            refine ⟨by omega,by omega,?_⟩
            intro b14 hb14
            have hoA:=ho.new hb14 3 [bD r]
            have f8:=hoA.is 2 rfl (by simp[dF]; omega)
            have hbg2:=nh (l:=dF g.aw.length o) (i:=r.left.toNat) (by simp[dF]; omega)
            rw[yX hl2 hl3] at hbg2
            have hn814:b8≠b14:=hoA.Nt 2 0 rfl rfl (by omega)
            have g8:H2 b8=.arr 1 (bb (dF g.aw.length o)):=ho.is 1 rfl (by simp[dF]; omega)
            try simp (disch:=omega) only [↓wr,↓reduceIte,wq,ah,ag,ak,ab,ae,af,ai,isNil,Nat.reduceEqDiff,Nat.reduceAdd,Nat.reduceLT,Nat.reduceLeDiff,Int.reduceNeg,Int.reduceToNat,reduceCtorEq,t1,t2,t7,t8,t10,t13,g8,hn814,hbg2,List.length_map,set_set,encI]
            refine ⟨by omega,by simp[dF]; omega,?_⟩
            intro b15 hb15
            have hbne:=(dq hb15 cU).1
            have hb15:=(dq (dq hb15 cU).2 cU).2
            have hoB:=(((hoA.new (n:=b15) (by simp only[View.set,if_neg hbne]; exact hb15) 3 [[gi (bk o r.left),.emp 1,gi r.prec]]).emp (k:=1) (sz:=1)).perm (.swap _ _ _))
            generalize hL:((V.sl b7 0 1 4,4,[[u0,u1,u2,gi 0]]) :: (V.sl b8 0 g.aw.length 1,1,bb (dF g.aw.length o)) :: (V.sl n3 0 kl.length 1,1,bb kl) ::
              (u1,1,rL (o.map fun x=>g.aw.getD x.toNat ⟨#[]⟩)) :: (u0,3,g.av.map df) :: (u2,3,iS bs) :: (V.sl b2 0 1 4,4,[[V.emp 1,V.emp 1,V.emp 1,gi 0]]) :: uP bs:List e9)=L at hoB
            have hL1:L[1]?=some (.sl b8 0 g.aw.length 1,1,bb (dF g.aw.length o)):=by rw[← hL]; rfl
            try simp (disch:=omega) only [↓wr,↓reduceIte,wq,ah,ag,ak,ab,ae,af,ai,isNil,Nat.reduceEqDiff,Nat.reduceAdd,Nat.reduceLT,Nat.reduceLeDiff,Int.reduceNeg,Int.reduceToNat,reduceCtorEq,t1,t2,t7,t8,t10,t13,set_set]
            refine bp.up r.right.length (QG g b2 b7 b8 b14 b15 (.sl n3 0 kl.length 1) o r L i) ?_ ?_
            · exact ⟨⟨.emp 1,by rw[set_set,set_set]; exact hoB⟩,t1,t2,t7,t8,t10,t13,rfl,rfl,rfl⟩
            clear hoA hoB f8 g8 hb14 hb15 t1 t2 t7 t8 t10 t13
            rintro k k2 T H3 hk2 ⟨⟨v,hoC⟩,t1,t2,t7,t8,t10,t13,t14,t15,t16⟩
            have f14:=hoC.is 2 rfl (by simp)
            have f15:=hoC.is 0 rfl (by simp)
            have f8:H3 b8=.arr 1 (bb (dF g.aw.length o)):=hoC.is 4 (by simpa using hL1) (by simp[dF]; omega)
            simp only[bD] at f14
            simp (disch:=omega) only [↓wr,↓reduceIte,wq,ah,ag,ak,ab,ae,af,ai,isNil,Nat.reduceEqDiff,Nat.reduceAdd,Nat.reduceLT,Nat.reduceLeDiff,Int.reduceNeg,Int.reduceToNat,reduceCtorEq,jV,t1,t2,t7,t8,t10,t13,t14,t15,t16,f14,encI]
            refine ar.dec (fun hcc=>?_) (fun hcc=>?_)
            · have hgs:r.right[k]?=some (r.right[k]'(by omega)):=List.getElem?_eq_getElem (by omega)
              have hms:r.right[k]'(by omega)∈r.right:=List.getElem_mem _
              have hts:(bE (bk o) r).right.take (k+1)=(bE (bk o) r).right.take k ++ [if r.right[k]'(by omega) < 0 then -1 - bk o (-1 - r.right[k]'(by omega)) else r.right[k]'(by omega)]:=by
                rw[List.take_add_one]; simp[bE,hgs]
              have hlk:((bE (bk o) r).right.take k).length≤6:=by
                have h1:(bE (bk o) r).right.length=r.right.length:=by simp[bE]
                have h2:((bE (bk o) r).right.take k).length≤(bE (bk o) r).right.length:=by rw[List.length_take]; omega
                omega
              generalize r.right[k]'(by omega)=s at hgs hms hts
              obtain ⟨⟨s1,s2⟩,s3⟩:=hsy s hms
              simp (disch:=omega) only [↓wr,↓reduceIte,wq,ah,ag,ak,ab,ae,af,ai,isNil,Nat.reduceEqDiff,Nat.reduceAdd,Nat.reduceLT,Nat.reduceLeDiff,Int.reduceNeg,Int.reduceToNat,reduceCtorEq,t1,t2,t7,t8,t10,t13,t14,t15,t16,f14,encI,List.getElem?_map,hgs]
              have hbd:=Cx o (-1 - s)
              have hob:o.length≤40:=by omega
              refine ar.dec (fun hneg=>?_) (fun hneg=>?_)
              · rw[if_pos hneg] at hts
                have hin1:=s3 hneg
                have hbg3:=nh (l:=dF g.aw.length o) (i:=(-1 - s).toNat) (by simp[dF]; omega)
                rw[yX (by omega) hin1] at hbg3
                simp (disch:=omega) only [↓wr,↓reduceIte,wq,ah,ag,ak,ab,ae,af,ai,isNil,Nat.reduceEqDiff,Nat.reduceAdd,Nat.reduceLT,Nat.reduceLeDiff,Int.reduceNeg,Int.reduceToNat,reduceCtorEq,t1,t2,t7,t8,t10,t13,t14,t15,t16,f14,f15,f8,hbg3,List.length_map]
                refine ⟨by omega,by simp[dF]; omega,?_⟩
                intro m hm
                try simp (disch:=omega) only [↓wr,↓reduceIte,wq,ah,ag,ak,ab,ae,af,ai,isNil,Nat.reduceEqDiff,Nat.reduceAdd,Nat.reduceLT,Nat.reduceLeDiff,Int.reduceNeg,Int.reduceToNat,reduceCtorEq,t1,t2,t7,t8,t10,t13,t14,t15,t16,cn]
                have hoD:=(hoC.fresh (o:=.arr 1 [[gi (-1 - bk o (-1 - s))]]) hm).at 1 (by simp)
                refine eQ hoD (by simp[aU]) (by unfold aP; simp at hlk ⊢; omega) (by unfold aP; simp at hlk ⊢; omega) ?_
                intro v' H4 hoE _
                have cv:=hoE.head.cells
                have kv:=hoE.head.jC
                have f15':=hoE.is 1 rfl (by simp)
                simp (disch:=omega) only [↓wr,↓reduceIte,wq,ah,ag,ak,ab,ae,af,ai,isNil,Nat.reduceEqDiff,Nat.reduceAdd,Nat.reduceLT,Nat.reduceLeDiff,Int.reduceNeg,Int.reduceToNat,reduceCtorEq,t1,t2,t7,t8,t10,t13,t14,t15,t16,f15',cv,kv]
                have hoF:=(hoE.at 1 (by simp)).put (es':=[[gi (bk o r.left),v',gi r.prec]]) rfl rfl
                refine br hk2 (by omega) ⟨⟨v',?_⟩,t1,t2,t7,t8,t10,t13,t14,t15,rfl⟩
                rw[hts]
                simp only[List.map_append,List.map_cons,List.map_nil]
                exact hoF
              · rw[if_neg hneg] at hts
                simp (disch:=omega) only [↓wr,↓reduceIte,wq,ah,ag,ak,ab,ae,af,ai,isNil,Nat.reduceEqDiff,Nat.reduceAdd,Nat.reduceLT,Nat.reduceLeDiff,Int.reduceNeg,Int.reduceToNat,reduceCtorEq,t1,t2,t7,t8,t10,t13,t14,t15,t16,f14,f15,f8]
                intro m hm
                try simp (disch:=omega) only [↓wr,↓reduceIte,wq,ah,ag,ak,ab,ae,af,ai,isNil,Nat.reduceEqDiff,Nat.reduceAdd,Nat.reduceLT,Nat.reduceLeDiff,Int.reduceNeg,Int.reduceToNat,reduceCtorEq,t1,t2,t7,t8,t10,t13,t14,t15,t16,cn]
                have hoD:=(hoC.fresh (o:=.arr 1 [[gi s]]) hm).at 1 (by simp)
                refine eQ hoD (by simp[aU]) (by unfold aP; simp at hlk ⊢; omega) (by unfold aP; simp at hlk ⊢; omega) ?_
                intro v' H4 hoE _
                have cv:=hoE.head.cells
                have kv:=hoE.head.jC
                have f15':=hoE.is 1 rfl (by simp)
                simp (disch:=omega) only [↓wr,↓reduceIte,wq,ah,ag,ak,ab,ae,af,ai,isNil,Nat.reduceEqDiff,Nat.reduceAdd,Nat.reduceLT,Nat.reduceLeDiff,Int.reduceNeg,Int.reduceToNat,reduceCtorEq,t1,t2,t7,t8,t10,t13,t14,t15,t16,f15',cv,kv]
                have hoF:=(hoE.at 1 (by simp)).put (es':=[[gi (bk o r.left),v',gi r.prec]]) rfl rfl
                refine br hk2 (by omega) ⟨⟨v',?_⟩,t1,t2,t7,t8,t10,t13,t14,t15,rfl⟩
                rw[hts]
                simp only[List.map_append,List.map_cons,List.map_nil]
                exact hoF
            · rw[List.take_of_length_le (by simp[bE]; omega)] at hoC
              subst hL
              have f7:=hoC.is 3 rfl (by simp)
              have cv:=(hoC.own 1 rfl).cells
              have kv:=(hoC.own 1 rfl).jC
              have hbl:(iS bs).length≤40:=by
                have h1:=congrArg List.length hbs
                simp only[List.length_map,List.length_take] at h1
                simp only[iS,List.length_map]
                omega
              simp (disch:=omega) only [↓wr,↓reduceIte,wq,ah,ag,ak,ab,ae,af,ai,isNil,Nat.reduceEqDiff,Nat.reduceAdd,Nat.reduceLT,Nat.reduceLeDiff,Int.reduceNeg,Int.reduceToNat,reduceCtorEq,t1,t2,t7,t8,t10,t13,t14,t15,t16,f7,f15,cv,kv]
              intro m hm
              try simp (disch:=omega) only [↓wr,↓reduceIte,wq,ah,ag,ak,ab,ae,af,ai,isNil,Nat.reduceEqDiff,Nat.reduceAdd,Nat.reduceLT,Nat.reduceLeDiff,Int.reduceNeg,Int.reduceToNat,reduceCtorEq,t1,t2,t7,t8,t10,t13,t14,t15,t16,cn]
              have hoD:=(hoC.fresh (o:=.arr 3 [[gi (bk o r.left),v,gi r.prec]]) hm).at 8 (by simp)
              refine eQ hoD (by simp[Cp,kv]) (by unfold aP; simp at hbl ⊢; omega) (by unfold aP; simp at hbl ⊢; omega) ?_
              intro u2' H4 hoE _
              have cu:=hoE.head.cells
              have ku:=hoE.head.jC
              have f7':=hoE.is 4 rfl (by simp)
              simp (disch:=omega) only [↓wr,↓reduceIte,wq,ah,ag,ak,ab,ae,af,ai,isNil,Nat.reduceEqDiff,Nat.reduceAdd,Nat.reduceLT,Nat.reduceLeDiff,Int.reduceNeg,Int.reduceToNat,reduceCtorEq,t1,t2,t7,t8,t10,t13,t14,t15,t16,f7',cu,ku]
              have hoF:=(hoE.at 4 (by simp)).put (es':=[[u0,u1,u2',gi 0]]) rfl rfl
              have hoG:=((((hoF.at 2 (by simp)).tail).at 3 (by simp)).tail)
              refine br hk (by omega) ⟨⟨u2',bs ++ [(v,bE (bk o) r)],?_,?_⟩,t1,t2,t7,t8,t10,rfl⟩
              · rw[List.map_append,hbs,htk,List.map_append]; rfl
              · refine hoG.perm (.cons _ ?_)
                simp only[uP,iS,List.map_append,List.map_cons,List.map_nil]
                refine .trans ?_ (y9 _ 4 (by simp)).symm
                refine .cons _ ?_
                exact (List.perm_append_singleton (v,1,bb (bE (bk o) r).right) ((.sl b8 0 g.aw.length 1,1,bb (dF g.aw.length o)) :: (.sl n3 0 kl.length 1,1,bb kl) :: (u1,1,rL (o.map fun x=>g.aw.getD x.toNat ⟨#[]⟩)) :: (u0,3,g.av.map df) :: (.sl b2 0 1 4,4,[[.emp 1,.emp 1,.emp 1,gi 0]]) :: uP bs)).symm
          · rw[List.take_of_length_le (by omega)] at hbs
            have f7:=ho.is 0 rfl (by simp)
            have f8:H2 b8=.arr 1 (bb (dF g.aw.length o)):=ho.is 1 rfl (by simp[dF]; omega)
            have f2:=ho.is 6 rfl (by simp)
            have n72:b7≠b2:=ho.Nt 0 6 rfl rfl (by omega)
            have c1:=(ho.own 3 rfl).cells
            have k1:=(ho.own 3 rfl).jC
            have c2:=(ho.own 5 rfl).cells
            have k2:=(ho.own 5 rfl).jC
            simp (disch:=omega) only [↓wr,↓reduceIte,wq,ah,ag,ak,ab,ae,af,ai,isNil,Nat.reduceEqDiff,Nat.reduceAdd,Nat.reduceLT,Nat.reduceLeDiff,Int.reduceNeg,Int.reduceToNat,reduceCtorEq,t1,t2,t7,t8,t10,t13,f7,f8,f2,n72,n72.symm,hstb,c0,k0,c1,k1,c2,k2,ax,List.length_map]
            refine ⟨by omega,by simp[dF]; omega,fun h' hh=>?_⟩
            have hoA:=ho.put (es':=[[u0,u1,u2,gi (bk o g.start)]]) rfl rfl
            have hoB:=(hoA.at 6 (by simp)).put (es':=[[u0,u1,u2,gi (bk o g.start)]]) rfl rfl
            have hv:h'.view=(H2.set b7 (.arr 4 [[u0,u1,u2,gi (bk o g.start)]])).set b2 (.arr 4 [[u0,u1,u2,gi (bk o g.start)]]):=hh
            rw[← hv] at hoB
            rw[hred]
            exact Ol (x:=(⟨g.av,o.map fun x=>g.aw.getD x.toNat ⟨#[]⟩,(g.rules.filter (bO p q)).map (bE (bk o)),bk o g.start⟩,kl,0)) (b:=bs) (hoB.own 5 rfl) (hoB.own 4 rfl) (hoB.own 6 rfl) (fun y hy=>hoB.1 y (by
              refine List.mem_cons_of_mem _ (List.mem_cons_of_mem _ (List.mem_cons_of_mem _ (List.mem_cons_of_mem _ (List.mem_cons_of_mem _ (List.mem_cons_of_mem _ (List.mem_cons_of_mem _ ?_))))))
              exact hy)) hbs (hoB.own 3 rfl)
  · rename_i hr
    intro h' hh
    rw[iF,if_neg (by simp[hr])]
    exact ET
theorem Gp {g:ay} (e:ll g=false):g.Small:=by
  simp only[ll,Bool.or_eq_false_iff,decide_eq_false_iff_not] at e
  exact ⟨by omega⟩
theorem Md (g:ay):aI Tryz.prog 12 [.agg (ax g)] (gb (ll g)):=aI.val (hQ g) fun H=>(MU g H).mono fun _ _ h=>h.1
theorem A3 {H:View} {id n:Nat} {l:List Int} (hv:H id=.arr 1 (bb l)) (hn:n=l.length):ef H (.sl id 0 n 1) (encI l):=by
  subst hn
  exact ef.own (sz:=1) (.inr ⟨id,by simp,hv⟩) fun e he v hv=>by
    obtain ⟨x,_,rfl⟩:=List.mem_map.1 he
    simp at hv; subst hv; exact .val _
theorem bj.elems {H:View} {u:V} {sz:Nat} {es:List (List V)} (h:bj H u sz es):∃ rd,bF H u=some (es,rd):=by
  rcases h with ⟨rfl,k,rfl⟩ | ⟨n,rfl,hn⟩
  · exact ⟨[],rfl⟩
  · cases es with
    | nil=>exact ⟨[],rfl⟩
    | cons e r =>
      refine ⟨[n],?_⟩
      rw[List.length_cons,AV _ n 0 r.length sz sz _ hn (by simp),List.drop_zero,List.take_of_length_le (by simp)]
theorem er.step {H H' H1:View} {u u1:V} (h:er H H' u) (l:Left H' H1 u u1):er H H1 u1:=fun id hid=>by
  have h1:=h id hid
  have h2:=l id (by rw[h1.1]; exact hid) h1.2
  exact ⟨h2.1.trans h1.1,h2.2⟩
theorem er.put {H H':View} {u:V} {n:Nat} {o:bM} (h:er H H' u) (hn:H' n=.dead):er H (H'.set n o) u:=fun id hid=>by
  have h1:=h id hid
  have e:id≠n:=by rintro rfl; rw[h1.1] at hn; exact hid hn
  exact ⟨by simp[View.set,e,h1.1],h1.2⟩
theorem er.call {H H' H2:View} {u r:V} (h:er H H' u) (k:er H' H2 r):er H H2 u:=fun id hid=>by
  have h1:=h id hid
  have h2:=k id (by rw[h1.1]; exact hid)
  exact ⟨h2.1.trans h1.1,h1.2⟩
theorem lq {P:Program} {t:TypeId} {d:TypeDesc} (hu:P.underlying t=some d) (hd:d=.string∨∃ k,d=.int k) (cs:Array Value) (off:Nat) {v:Value} (hv:cs[off]?=some v):bw P (part t cs off)=some v:=by
  have h0:bw P (isAgg t)=some false:=by
    rcases hd with rfl | ⟨k,rfl⟩
    all_goals simp only[isAgg,bm,dx hu,Option.bind_some]; rfl
  simp only[part,bm,h0,Option.bind_some,Bool.false_eq_true,if_false,hv]
  rfl
inductive fc (P:Program) (d:Nat) (xs ys:Array Value):List Field→Bool→Prop
  | nil:fc P d xs ys [] true
  | str (f:Field) (l:List Field) (c:Bool) (a b:ByteArray):(f.name≠ "_")→P.underlying f.type=some .string→xs[f.offset]?=some (.string a)→ys[f.offset]?=some (.string b)→fc P d xs ys l c→fc P d xs ys (f :: l) (a == b && c)
  | int (f:Field) (l:List Field) (c:Bool) (k:IntKind) (a b:Int):(f.name≠ "_")→P.underlying f.type=some (.int k)→xs[f.offset]?=some (.int k a)→ys[f.offset]?=some (.int k b)→fc P d xs ys l c→fc P d xs ys (f :: l) (a == b && c)
theorem fc.forIn {P:Program} {d e:Nat} {xs ys:Array Value} {l:List Field} {c:Bool} (h:fc P d xs ys l c) (hd:e=d+1) :
    bw P (forIn l ((none:Option Bool),()) fun f _ =>
        if f.name≠ "_" then do
          let a ← part f.type xs f.offset
          let b ← part f.type ys f.offset
          let e ← Op.equalIn e f.type a b
          if (!e)=true then pure (ForInStep.done (some false,())) else pure (ForInStep.yield (none,()))
        else pure (ForInStep.yield (none,())))=some (if c=true then (none,()) else (some false,())):=by
  subst hd
  induction h with
  | nil=>rfl
  | str f l c a b hn hu hx hy _ ih =>
    have he:bw P (Op.equalIn (d+1) f.type (.string a) (.string b))=some (a == b):=by
      simp only[Op.equalIn,bm,dx hu,Option.bind_some]; rfl
    rw[List.forIn_cons,bm,if_pos hn,bm,lq hu (.inl rfl) xs _ hx,Option.bind_some,bm,lq hu (.inl rfl) ys _ hy,Option.bind_some,bm,he,Option.bind_some]
    cases a == b with
    | false=>rfl
    | true=>exact ih
  | int f l c k a b hn hu hx hy _ ih =>
    have he:bw P (Op.equalIn (d+1) f.type (.int k a) (.int k b))=some (a == b):=by
      simp only[Op.equalIn,bm,dx hu,Option.bind_some]; rfl
    rw[List.forIn_cons,bm,if_pos hn,bm,lq hu (.inr ⟨k,rfl⟩) xs _ hx,Option.bind_some,bm,lq hu (.inr ⟨k,rfl⟩) ys _ hy,Option.bind_some,bm,he,Option.bind_some]
    cases a == b with
    | false=>rfl
    | true=>exact ih
theorem Ai {P:Program} {t:TypeId} {fs:Array Field} {xs ys:Array Value} {c:Bool} (hu:P.underlying t=some (.struct fs)) (hs:P.stoodInHeld t=false) (h:fc P 9998 xs ys fs.toList c) :
    bw P (Op.equal t (.agg xs) (.agg ys))=some c:=by
  rw[jk]
  rw[Op.equalIn,bm,dx hu,Option.bind_some]
  have hst:(bw P program)=some P:=rfl
  rw[bm,hst,Option.bind_some,hs]
  simp only[← Array.forIn_toList,Bool.false_eq_true,if_false]
  rw[bm,h.forIn (e:=9999) rfl,Option.bind_some]
  cases c <;> rfl
theorem Cl {P:Program} {o:Oper} {T:Env} {op:BinOp} {t u:TypeId} {x y:Operand} {fs:Array Field} {xs ys:Array Value} {c r:Bool} (ho:o.op=.binOp op t x y u) (hu:P.underlying t=some (.struct fs)) (hs:P.stoodInHeld t=false) (hg:P.eqGuardType P.depth t=false)
    (hx:cr (ev T x)=some (.agg xs)) (hy:cr (ev T y)=some (.agg ys)) (h:fc P 9998 xs ys fs.toList c) (hr:(op=.eql∧r=c)∨(op=.neq∧r = !c)) :
    cG P o T=some (.val (.bool r),.none,[]):=by
  have he:=Ai hu hs h
  have hst:(bw P program)=some P:=rfl
  unfold cG
  simp only[ho,Op.operands,hx,hy]
  rcases hr with ⟨rfl,rfl⟩ | ⟨rfl,rfl⟩
  · simp[execOp,ho,hx,hy,eqGuard,binOp,gh,bm,hst,hg,he,plain]
    try simp[bw,pure,plain]
  · simp[execOp,ho,hx,hy,eqGuard,binOp,gh,bm,hst,hg,he,plain]
    try simp[bw,pure,plain,bne]
theorem te {P:Program} {T:Env} {H:View} {K:V→View→Prop} {w:ct (T,H,K)} {op:BinOp} {t u ty:TypeId} {x y:Operand} {fs:Array Field} {xs ys:Array Value} {c r:Bool} (hu:P.underlying t=some (.struct fs)) (hs:P.stoodInHeld t=false) (hg:P.eqGuardType P.depth t=false)
    (hx:cr (ev T x)=some (.agg xs)) (hy:cr (ev T y)=some (.agg ys)) (h:fc P 9998 xs ys fs.toList c) (hr:(op=.eql∧r=c)∨(op=.neq∧r = !c)) (hk:K (.val (.bool r)) H):pS P (.binOp op t x y u) ty T H K w:=by
  intro n _
  refine ⟨.val (.bool r),.none,[],?_,hk⟩
  have hn:gH P t=none:=by simp[gH,hu]
  simp only[sI,bK,oper,hn]
  simp only[Option.isSome_none,Bool.false_eq_true,if_false]
  exact Cl rfl hu hs hg hx hy h hr
def l0 (hp:Array Obj) (cs:List Value) (vs:List V):Prop :=
  vs.length=cs.length∧∀ μ i,i < vs.length→aB (fun b=>b < hp.size) μ hp (vs.getD i .any) (cs.getD i undef)
def Wt {H:Type} (P:Program) (t:TypeId) (d:DataW H):Prop:=∀ n∈d.weights P t,n≤reachBytes
def pC (P:Program) (t:TypeId) {α:Type} (f:α→List V) (ok:α→Prop):Prop :=
  ∀ {H:Type} (enc:TypeId × Value→H) (w:World) (base:Nat) (sp:Nat→Bool) (held:Bool) (fuel:Nat) (cs:List Value) (x:DataW H × List MemPlace),
    DataW.trod enc P w base sp held fuel t cs=some x→Wt P t x.1→∃ a,ok a∧l0 w.heap cs (f a)
theorem vx {hp:Array Obj} {c:Value} {v:V} (h:∀ μ,aB (fun b=>b < hp.size) μ hp v c):l0 hp [c] [v]:=by
  refine ⟨rfl,fun μ i hi=>?_⟩
  match i,hi with
  | 0,_=>exact h μ
theorem Pq {P:Program} {t:TypeId} {k:IntKind} (ht:P.underlying t=some (.int k)):pC P t (fun n=>[.val (.int k n)]) (fun n=>(Lit.int k n).wf=true):=by
  intro H enc w base sp held fuel cs x h _
  obtain ⟨n,rfl,_,hw⟩:=DataW.trod_int ht h
  exact ⟨n,hw,vx fun μ=>.val _ rfl⟩
theorem Dj {P:Program} {t:TypeId} (ht:P.underlying t=some .string):pC P t (fun s=>[.val (.string s)]) (fun _=>True):=by
  intro H enc w base sp held fuel cs x h _
  obtain ⟨s,rfl,_,_⟩:=DataW.trod_string ht h
  exact ⟨s,trivial,vx fun μ=>.val _ rfl⟩
theorem En {w:World} {base:Nat} {a:Addr} {n:Nat} {cs:List Value} (h:w.cells? base a n=some cs):cs.length=n∧∀ i,i < n→w.cell? (a.add i)=some (cs.getD i undef):=by
  obtain ⟨_,h2,h3⟩:=World.cells?_some h
  refine ⟨h2,fun i hi=>?_⟩
  rw[h3 i hi,List.getD_eq_getElem?_getD,List.getElem?_eq_getElem (by omega)]
  rfl
theorem Ky {w:World} {a:Addr} {v:Value} (h:w.cell? a=some v):a.spot=none∧a.block < w.heap.size:=by
  unfold World.cell? at h
  split at h
  · rename_i c _ _ hb
    split at h
    · simp at h
    · rename_i hs
      exact ⟨by simpa using hs,(Array.getElem?_eq_some_iff.1 hb).1⟩
  · simp at h
theorem J3 {H:Type} {P:Program} {e:TypeId} : ∀ {l:List (DataW H)},(∀ n∈DataW.weightsAll P e l,n≤reachBytes)→∀ d∈l,Wt P e d
  | [],_,d,hd=>by simp at hd
  | x :: l,h,d,hd=>by
    simp only[DataW.weightsAll,List.mem_append] at h
    rcases List.mem_cons.1 hd with rfl | hd
    · exact fun n hn=>h n (.inl hn)
    · exact J3 (fun n hn=>h n (.inr hn)) d hd
theorem M6 {H:Type} {P:Program} {t e:TypeId} {elems spare:List (DataW H)} (ht:P.underlying t=some (.slice e)) (h:Wt P t (.slice elems spare)) :
    (elems.length+spare.length) * P.bytesOf e≤reachBytes∧∀ d∈elems,Wt P e d:=by
  unfold Wt at h
  unfold DataW.weights at h
  rw[ht] at h
  simp only[List.mem_cons,List.mem_append] at h
  exact ⟨h _ (.inl rfl),J3 fun n hn=>h n (.inr (.inl hn))⟩
theorem Du {H:Type} {P:Program} {t:TypeId} {fs:Array Field} {parts:List (DataW H)} (ht:P.underlying t=some (.struct fs)) (h:Wt P t (.agg parts)) {j:Nat} {f:Field} {d:DataW H} (hf:fs[j]?=some f) (hd:parts[j]?=some d):Wt P f.type d:=by
  intro n hn
  refine h n ?_
  unfold DataW.weights
  rw[ht]
  exact DataW.weights_mem_each (j:=j) (t:=f.type) (by simp[hf]) hd n hn
theorem GY {α:Type} {φ:Nat→α→Prop} : ∀ (n:Nat),(∀ i,i < n→∃ a,φ i a)→∃ l:List α,l.length=n∧∀ i (hi:i < l.length),φ i l[i]
  | 0,_=>⟨[],rfl,fun i hi=>by simp at hi⟩
  | n+1,h=>by
    obtain ⟨l,hl,hφ⟩:=GY n fun i hi=>h i (by omega)
    obtain ⟨a,ha⟩:=h n (by omega)
    refine ⟨l ++ [a],by simp[hl],fun i hi=>?_⟩
    by_cases e:i < l.length
    · rw[List.getElem_append_left e]; exact hφ i e
    · have:i=n:=by simp at hi; omega
      subst this
      rw[List.getElem_append_right (by omega)]
      simp only[hl,Nat.sub_self,List.getElem_cons_zero]; exact ha
theorem iQ {P:Program} {t e:TypeId} {α:Type} {f:α→List V} {ok:α→Prop} (ht:P.underlying t=some (.slice e)) (hc:0 < P.cellsOf e) (hb:0 < P.bytesOf e) (he:pC P e f ok) :
    pC P t (fun l:List α=>[.aL (l.map f)]) (fun l=>l.length < 4611686018427387904∧∀ a∈l,ok a):=by
  intro H enc w base sp held fuel cs x h hw
  rcases DataW.trod_slice ht h with ⟨rfl,rfl⟩ | ⟨a,len,cap,elems,rest,n,_,rfl,rfl,hba,hl,hm,hlen,hel,_,_⟩
  · exact ⟨[],⟨by simp,by simp⟩,vx fun μ=>.gg none 0 (by simp)⟩
  obtain ⟨hw1,hw2⟩:=M6 ht hw
  simp only[List.length_map] at hw1
  have hlt:len < 4611686018427387904:=by
    have h1:len * 1≤(elems.length+rest.length) * P.bytesOf e:=Nat.mul_le_mul (by omega) hb
    unfold reachBytes at hw1
    omega
  have each:∀ i,i < len→∃ y,ok y∧∃ ci,w.cells? base (a.add (i * P.cellsOf e)) (P.cellsOf e)=some ci∧l0 w.heap ci (f y):=by
    intro i hi
    have h1:=hel i hi
    have h2:elems[i]?=some (elems[i]'(by omega)):=List.getElem?_eq_getElem (by omega)
    have hmem:elems[i]'(by omega)∈elems:=List.getElem_mem _
    rw[h2,Option.bind_eq_some_iff] at h1
    obtain ⟨ci,h3,h4⟩:=h1
    obtain ⟨y,h5,h6⟩:=he enc w base sp held n ci _ h4 (hw2 _ (List.mem_map.2 ⟨_,hmem,rfl⟩))
    exact ⟨y,h5,ci,h3,h6⟩
  obtain ⟨l,hll,hφ⟩:=GY len each
  subst hll
  refine ⟨l,⟨hlt,fun y hy=>?_⟩,vx fun μ=>?_⟩
  · obtain ⟨i,hi,rfl⟩:=List.getElem_of_mem hy
    exact (hφ i hi).1
  by_cases h0:l=[]
  · subst h0
    exact .gg (some a) cap (by simp)
  have hpos:0 < l.length:=List.length_pos_iff.2 h0
  have hcell:∀ i j,i < l.length→j < P.cellsOf e→∃ c,cellAt w.heap a.block (a.off+i * P.cellsOf e+j)=some c∧a.block < w.heap.size∧(i=0→j=0→a.spot=none)∧∀ (hi:i < l.length),aB (fun b=>b < w.heap.size) μ w.heap ((f l[i]).getD j .any) c:=by
    intro i j hi hj
    obtain ⟨_,ci,h1,h2⟩:=hφ i hi
    obtain ⟨h3,h4⟩:=En h1
    have h5:=h4 j hj
    have h6:=Ky h5
    have hbk:((a.add (i * P.cellsOf e)).add j).block=a.block:=by simp only[Addr.add]; split <;> split <;> rfl
    have hof:((a.add (i * P.cellsOf e)).add j).off=a.off+i * P.cellsOf e+j:=by
      simp only[Addr.add]; split <;> split <;> simp_all
    refine ⟨ci.getD j undef,?_,by rw[← hbk]; exact h6.2,?_,fun _=>?_⟩
    · rw[← hof,← hbk,← qm]
      rw[← h5]
      congr 1
      generalize (a.add (i * P.cellsOf e)).add j=b at h6
      cases b
      simp at h6 ⊢
      exact h6.1.symm
    · rintro rfl rfl
      simp[Addr.add] at h6
      exact h6.1
    · exact h2.2 μ j (by rw[h2.1,h3]; exact hj)
  obtain ⟨_,_,hz,hs,_⟩:=hcell 0 0 hpos hc
  have ha:a=⟨a.block,a.off,none⟩:=by
    cases a; simp at hs ⊢; exact hs
  have hlf:∀ i,i < l.length→(f (l[i]?.getD (l[0]'hpos))).length=P.cellsOf e:=fun i hi=>by
    obtain ⟨_,ci,h1,h2⟩:=hφ i hi
    rw[List.getElem?_eq_getElem hi,Option.getD_some,h2.1,(En h1).1]
  have hgd:∀ i (hi:i < l.length),(l.map f).getD i []=f l[i]:=fun i hi=>by simp[List.getD_eq_getElem?_getD,hi]
  have hcl:(l.map f).length=l.length:=by simp
  have:=aB.aL (Z:=fun b=>b < w.heap.size) (μ:=μ) (hp:=w.heap) (l.map f) a.block a.off (P.cellsOf e) cap (fun i j=>(cellAt w.heap a.block (a.off+i * P.cellsOf e+j)).getD undef) hz (by rw[hcl]; exact hl)
    (fun i hi=>by
      rw[hcl] at hi
      have:=hlf i hi
      rw[List.getElem?_eq_getElem hi,Option.getD_some] at this
      rw[hgd i hi]; exact this)
    (fun i j hi hj=>by
      rw[hcl] at hi
      obtain ⟨c,h1,_⟩:=hcell i j hi hj
      rw[h1]; rfl)
    (fun i j hi hj=>by
      rw[hcl] at hi
      obtain ⟨c,h1,_,_,h2⟩:=hcell i j hi hj
      rw[h1,hgd i hi]; exact h2 hi)
  rw[hcl,← ha] at this
  exact this
theorem kT {P:Program} {t:TypeId} {fs:Array Field} (ht:P.underlying t=some (.struct fs)) (hf:∀ (i:Nat) (f:Field),fs[i]?=some f→f.offset=i∧P.cellsOf f.type=1) (hn:P.cellsOf t=fs.size)
    {H:Type} {enc:TypeId × Value→H} {w:World} {base:Nat} {sp:Nat→Bool} {held:Bool} {fuel:Nat} {cs:List Value} {x:DataW H × List MemPlace} (h:DataW.trod enc P w base sp held fuel t cs=some x) (hw:Wt P t x.1) :
    cs.length=fs.size∧∀ (i:Nat) (f:Field),fs[i]?=some f→∀ {α:Type} {g:α→List V} {ok:α→Prop},pC P f.type g ok→∃ a,ok a∧l0 w.heap [cs.getD i undef] (g a):=by
  obtain ⟨xs,n,rfl,rfl,hl,hlen,hx⟩:=DataW.trod_struct ht h
  refine ⟨by rw[hl,hn],fun i f hi α g ok hr=>?_⟩
  obtain ⟨h1,h2⟩:=hf i f hi
  have hi2:i < fs.size:=(Array.getElem?_eq_some_iff.1 hi).1
  have h3:=hx i f hi
  have h4:xs[i]?=some (xs[i]'(by omega)):=List.getElem?_eq_getElem (by omega)
  rw[h4,h1,h2] at h3
  have h5:(cs.drop i).take 1=[cs.getD i undef]:=by
    rw[List.getD_eq_getElem?_getD,List.getElem?_eq_getElem (by omega),List.drop_eq_getElem_cons (by omega)]
    rfl
  rw[h5] at h3
  exact hr enc w base sp held n _ _ h3 (Du ht hw hi (by simp[h4]))
theorem cd {hp:Array Obj} {c:Value} {cs:List Value} {v:V} {vs:List V} (h:l0 hp [c] [v]) (k:l0 hp cs vs):l0 hp (c :: cs) (v :: vs):=by
  refine ⟨by simp[k.1],fun μ i hi=>?_⟩
  cases i with
  | zero=>exact h.2 μ 0 (by simp)
  | succ i=>exact k.2 μ i (by simpa using hi)
theorem ni {hp:Array Obj} : l0 hp [] []:=⟨rfl,fun μ i hi=>by simp at hi⟩
theorem OG {n:Int} (h:(Lit.int .i64 n).wf=true):bJ n:=by
  simp only[Lit.wf,Bool.and_eq_true,decide_eq_true_eq] at h
  exact h
theorem eC:pC Tryz.prog 3 (fun n=>[gi n]) bJ:=fun enc w base sp held fuel cs x h hw=>by
  obtain ⟨n,h1,h2⟩:=Pq Tryz.underlying3 enc w base sp held fuel cs x h hw
  exact ⟨n,OG h1,h2⟩
theorem za:pC Tryz.prog 31 (fun l:List Int=>[encI l]) (fun l=>aR l∧∀ x∈l,bJ x) :=
  iQ Tryz.underlying31 (of_decide_eq_true (by kernel_rfl)) (of_decide_eq_true (by kernel_rfl)) eC
theorem Ix:pC Tryz.prog 23 (fun l:List ByteArray=>[encS l]) (fun l=>aR l∧∀ x∈l,True) :=
  iQ Tryz.underlying23 (of_decide_eq_true (by kernel_rfl)) (of_decide_eq_true (by kernel_rfl)) (Dj Tryz.underlying9)
theorem Qr {cs:List Value} (h:cs.length=3):cs=[cs.getD 0 undef,cs.getD 1 undef,cs.getD 2 undef]:=by
  match cs,h with
  | [a,b,c],_=>rfl
theorem QS {cs:List Value} (h:cs.length=4):cs=[cs.getD 0 undef,cs.getD 1 undef,cs.getD 2 undef,cs.getD 3 undef]:=by
  match cs,h with
  | [a,b,c,d],_=>rfl
theorem OE:pC Tryz.prog 119 df (fun t=>bJ t.level∧bJ t.assoc):=fun enc w base sp held fuel cs x h hw=>by
  obtain ⟨hl,hf⟩:=kT Tryz.underlying119 (by
    intro i f hi
    match i,hi with
    | 0,hi=>simp at hi; subst hi; exact ⟨rfl,by kernel_rfl⟩
    | 1,hi=>simp at hi; subst hi; exact ⟨rfl,by kernel_rfl⟩
    | 2,hi=>simp at hi; subst hi; exact ⟨rfl,by kernel_rfl⟩
    | n+3,hi=>simp at hi) (by kernel_rfl) h hw
  obtain ⟨a,_,h1⟩:=hf 0 _ rfl (Dj Tryz.underlying9)
  obtain ⟨b,h2,h3⟩:=hf 1 _ rfl eC
  obtain ⟨c,h4,h5⟩:=hf 2 _ rfl eC
  refine ⟨⟨a,b,c⟩,⟨h2,h4⟩,?_⟩
  rw[Qr hl]
  exact cd h1 (cd h3 (cd h5 ni))
theorem N7:pC Tryz.prog 75 bD (fun r=>bJ r.left∧bJ r.prec∧aR r.right∧∀ x∈r.right,bJ x):=fun enc w base sp held fuel cs x h hw=>by
  obtain ⟨hl,hf⟩:=kT Tryz.underlying75 (by
    intro i f hi
    match i,hi with
    | 0,hi=>simp at hi; subst hi; exact ⟨rfl,by kernel_rfl⟩
    | 1,hi=>simp at hi; subst hi; exact ⟨rfl,by kernel_rfl⟩
    | 2,hi=>simp at hi; subst hi; exact ⟨rfl,by kernel_rfl⟩
    | n+3,hi=>simp at hi) (by kernel_rfl) h hw
  obtain ⟨a,h0,h1⟩:=hf 0 _ rfl eC
  obtain ⟨b,h2,h3⟩:=hf 1 _ rfl za
  obtain ⟨c,h4,h5⟩:=hf 2 _ rfl eC
  refine ⟨⟨a,b,c⟩,⟨h0,h4,h2.1,h2.2⟩,?_⟩
  rw[Qr hl]
  exact cd h1 (cd h3 (cd h5 ni))
theorem OM:pC Tryz.prog 26 ax ay.Ok:=fun enc w base sp held fuel cs x h hw=>by
  obtain ⟨hl,hf⟩:=kT Tryz.underlying26 (by
    intro i f hi
    match i,hi with
    | 0,hi=>simp at hi; subst hi; exact ⟨rfl,by kernel_rfl⟩
    | 1,hi=>simp at hi; subst hi; exact ⟨rfl,by kernel_rfl⟩
    | 2,hi=>simp at hi; subst hi; exact ⟨rfl,by kernel_rfl⟩
    | 3,hi=>simp at hi; subst hi; exact ⟨rfl,by kernel_rfl⟩
    | n+4,hi=>simp at hi) (by kernel_rfl) h hw
  obtain ⟨a,h0,h1⟩:=hf 0 _ rfl (iQ Tryz.underlying22 (of_decide_eq_true (by kernel_rfl)) (of_decide_eq_true (by kernel_rfl)) OE)
  obtain ⟨b,h2,h3⟩:=hf 1 _ rfl Ix
  obtain ⟨c,h4,h5⟩:=hf 2 _ rfl (iQ Tryz.underlying24 (of_decide_eq_true (by kernel_rfl)) (of_decide_eq_true (by kernel_rfl)) N7)
  obtain ⟨d,h6,h7⟩:=hf 3 _ rfl eC
  refine ⟨⟨a,b,c,d⟩,⟨h0.1,h2.1,h4.1,h6,h0.2,h4.2⟩,?_⟩
  rw[QS hl]
  exact cd h1 (cd h3 (cd h5 (cd h7 ni)))
theorem Hb {l:List Int} {a b:List Bool} {t:Bool} (h:fT a b) (k:dP l a t=true):dP l b t=true:=by
  simp only[dP,List.all_eq_true] at k ⊢
  intro s hs
  have:=k s hs
  by_cases h0:0≤s
  · rw[if_pos h0] at this ⊢; exact this
  · rw[if_neg h0] at this ⊢; exact h.2 _ this
theorem fT.Mi {a b:List Bool} (h:fT a b) (k:fT b a):a=b:=by
  have h1:=h.fV
  have h2:=k.fV
  exact h1.2 (by omega)
def pn (g:ay) (t:Bool) (is:List Bool):Prop:=∀ i,is.getD i false=true→∃ r∈g.rules,r.left.toNat=i∧dP r.right is t=true
theorem pn.step {g:ay} {t:Bool} {is:List Bool} {r:bc} (h:pn g t is) (hr:r∈g.rules):pn g t (cW t is r):=by
  have hle:fT is (cW t is r):=by
    unfold cW
    split
    · exact .set _ _
    · exact .refl _
  intro i hi
  by_cases e:is.getD i false=true
  · obtain ⟨r',h1,h2,h3⟩:=h i e
    exact ⟨r',h1,h2,Hb hle h3⟩
  · unfold cW at hi
    by_cases ha:dP r.right is t=true
    · rw[if_pos ha] at hi
      have:r.left.toNat=i:=by
        refine Classical.byContradiction fun hne=>e ?_
        simp only[List.getD_eq_getElem?_getD,List.getElem?_set,if_neg hne] at hi ⊢
        exact hi
      exact ⟨r,hr,this,Hb hle ha⟩
    · rw[if_neg ha] at hi; exact absurd hi e
theorem pn.fold {g:ay} {t:Bool} : ∀ (l:List bc) (is:List Bool),(∀ r∈l,r∈g.rules)→pn g t is→pn g t (l.foldl (cW t) is)
  | [],is,_,h=>h
  | r :: l,is,hl,h=>pn.fold l _ (fun x hx=>hl x (by simp[hx])) (h.step (hl r (by simp)))
theorem pn.iter {g:ay} {t:Bool} : ∀ (n:Nat) (is:List Bool),pn g t is→pn g t (iter (hU g t) n is)
  | 0,_,h=>h
  | n+1,is,h=>pn.iter n _ (pn.fold g.rules is (fun _ h=>h) h)
theorem HK (is:List Bool) (s:Int):fT is (mark is s):=by
  unfold mark
  split
  · exact .set _ _
  · exact .refl _
theorem Al:∀ (l:List Int) (is:List Bool),fT is (l.foldl mark is)
  | [],is=>.refl _
  | s :: l,is=>(HK is s).trans (Al l _)
theorem F1 (p is:List Bool) (r:bc):fT is (ej p is r):=by
  unfold ej
  split
  · exact Al _ _
  · exact .refl _
theorem FW (p:List Bool):∀ (l:List bc) (is:List Bool),fT is (l.foldl (ej p) is)
  | [],is=>.refl _
  | r :: l,is=>(F1 p is r).trans (FW p l _)
theorem DR {p:List Bool} : ∀ {l:List bc} {is:List Bool},l.foldl (ej p) is=is→∀ r∈l,ej p is r=is
  | [],_,_,_,h=>by simp at h
  | r :: l,is,h,x,hx=>by
    rw[List.foldl_cons] at h
    have h1:=FW p l (ej p is r)
    rw[h] at h1
    have h2:=(h1.Mi (F1 p is r))
    rcases List.mem_cons.1 hx with rfl | hx
    · exact h2
    · rw[h2] at h; exact DR h x hx
theorem C3:∀ {l:List Int} {is:List Bool},l.foldl mark is=is→∀ s∈l,mark is s=is
  | [],_,_,_,h=>by simp at h
  | r :: l,is,h,x,hx=>by
    rw[List.foldl_cons] at h
    have h1:=Al l (mark is r)
    rw[h] at h1
    have h2:=(h1.Mi (HK is r))
    rcases List.mem_cons.1 hx with rfl | hx
    · exact h2
    · rw[h2] at h; exact C3 h x hx
theorem De {g:ay} (hr:bB g=true):lC g (aV g true) (bN g)=bN g∧fT ((cw g).set g.start.toNat true) (bN g):=by
  have hf:=bI hr
  have h:=rK (BN (aV g true)) g.rules 16 ((cw g).set g.start.toNat true) (by have:=hf.aw; simp[cw]; omega)
  rw[G0,PV hr] at h
  exact h
theorem GO {g:ay} (hr:bB g=true):(bN g).getD g.start.toNat false=true:=by
  have hf:=bI hr
  refine (De hr).2.2 _ ?_
  have h3:=hf.uR
  have h4:=hf.start
  simp only[List.getD_eq_getElem?_getD]
  rw[List.getElem?_set_self (by simp[cw]; omega)]
  rfl
theorem Iz {g:ay} (hr:bB g=true) {r:bc} (hm:r∈g.rules) (hk:bO (aV g true) (bN g) r=true) {s:Int} (hs:s∈r.right) (hn:s < 0):(bN g).getD (-1 - s).toNat false=true:=by
  have hf:=bI hr
  have h1:=DR (De hr).1 r hm
  unfold ej at h1
  rw[bO] at hk
  rw[if_pos hk] at h1
  have h2:=C3 h1 s hs
  unfold mark at h2
  rw[if_pos hn] at h2
  rw[← h2]
  have hl:=zw hr
  have:=hf.neg hm hs hn
  simp only[List.getD_eq_getElem?_getD]
  rw[List.getElem?_set_self (by omega)]
  rfl
end Gv
