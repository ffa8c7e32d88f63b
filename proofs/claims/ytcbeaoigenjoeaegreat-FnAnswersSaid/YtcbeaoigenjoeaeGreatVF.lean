/- A verified symbolic evaluator, part F. -/
import Derived.ChangeArms
import Derived.ChangeShapes
import Derived.ChangeSlices
import Derived.Carry
import Derived.WideShapes
import Derived.Test.YtcbeaoigenjoeaeGreatVE
namespace Go.Proofs.YtcbeaoigenjoeaeGreat
namespace V
set_option linter.unusedVariables false
open Go.RowKit
def ETy.app :ETy→ETy→ETy
 | .nil,b=>b
 | .cons t ts,b=> .cons t (ts.app b)
theorem ETy.app_len :∀(a b:ETy),(a.app b).len=a.len+b.len
 | .nil,b=>by simp[ETy.app,ETy.len]
 | .cons t ts,b=>by simp[ETy.app,ETy.len,ETy.app_len ts b];omega
def ETy.mk (t:LTy):(X:ETy)→t.den→X.den→(ETy.cons t X).den
 | .nil,a,_=>a
 | .cons _ _,a,r=>(a,r)
theorem ETy.sgs_mk (t:LTy):∀(X:ETy) (a:t.den) (r:X.den),(ETy.cons t X).sgs (ETy.mk t X a r)=t.sg a::X.sgs r
 | .nil,_,_=>rfl
 | .cons _ _,_,_=>rfl
theorem ETy.split (t:LTy):∀(X:ETy) (y:(ETy.cons t X).den),∃a r,y=ETy.mk t X a r
 | .nil,y=>⟨y,(),rfl⟩
 | .cons _ _,y=>⟨y.1,y.2,rfl⟩
mutual
def LTy.wf :(t:LTy)→t.den→Prop
 | .int k,n=>(Lit.int k n).wf=true
 | .bool,_=>True
 | .str,s=>s.size≤maxLen
 | .sl T,xs=>List.length xs≤maxLen∧∀i x,nth (α:=T.den) xs i=some x→ETy.wf T x
 | .ptr _,_=>False
 | .fn _ _ _ _,_=>False
def ETy.wf :(T:ETy)→T.den→Prop
 | .nil,_=>True
 | .cons t .nil,x=>LTy.wf t x
 | .cons t (.cons u ts),x=>LTy.wf t x.1∧ETy.wf (.cons u ts) x.2
end
theorem ETy.wf_mk (t:LTy):∀(X:ETy) (a:t.den) (r:X.den),LTy.wf t a→ETy.wf X r→ETy.wf (.cons t X) (ETy.mk t X a r)
 | .nil,_,_,h,_=>h
 | .cons _ _,_,_,h,h'=>⟨h,h'⟩
theorem ETy.app_mk :∀(A B:ETy) (x:A.den) (y:B.den),A.wf x→B.wf y→∃z:(A.app B).den,(A.app B).sgs z=A.sgs x++B.sgs y∧(A.app B).wf z
 | .nil,B,x,y,_,h=>⟨y,rfl,h⟩
 | .cons t .nil,B,x,y,h,h'=>⟨ETy.mk t B x y,ETy.sgs_mk t B x y,ETy.wf_mk t B x y h h'⟩
 | .cons t (.cons u ts),B,x,y,h,h'=>by
   obtain⟨z,hz,hw⟩:=ETy.app_mk (.cons u ts) B x.2 y h.2 h'
   exact⟨ETy.mk t _ x.1 z,(ETy.sgs_mk t _ x.1 z).trans (by rw[hz];rfl),ETy.wf_mk t _ x.1 z h.1 hw⟩
def ETy.zv :ETy→List Value
 | .nil=>[]
 | .cons t ts=>(match t with| .int k=> .int k 0| .bool=> .bool false| .str=> .string ByteArray.empty| .sl _=> .slice none 0 0|_=> .nilIface)::ts.zv
def fieldsT (P:Program)(rec:Nat→Option ETy):List Field→Nat→Option ETy
 |[],_=>some .nil
 |f::fs,o=>
  match decide (f.offset=o),rec f.type with
  |true,some T=>(fieldsT P rec fs (o+T.len)).map fun U=>T.app U
  |_,_=>none
def tyT0 (P:Program)(rec:Nat→Option ETy)(t:Nat):Option ETy:=
 match P.underlying t with
 |some (.int k)=>some (.cons (.int k) .nil)
 |some .bool=>some (.cons .bool .nil)
 |some .string=>some (.cons .str .nil)
 |some (.slice e)=>(rec e).map fun T=> .cons (.sl T) .nil
 |some (.struct fs)=>fieldsT P rec fs.toList 0
 |_=>none
def tyT (P:Program):Nat→Nat→Option ETy
 |0,_=>none
 |n+1,t=>(tyT0 P (tyT P n) t).bind fun T=>match decide (T.len=P.cellsOf t),decide (1≤T.len)with|true,true=>some T|_,_=>none
theorem tyT_succ {P:Program}{n t:Nat}{T:ETy}(h:tyT P (n+1) t=some T):tyT0 P (tyT P n) t=some T∧T.len=P.cellsOf t∧1≤T.len:=by
 obtain⟨U,h1,h2⟩:=Option.bind_eq_some_iff.1 h
 split at h2
 ·rename_i ha hb
  have:=Option.some.inj h2
  subst this
  exact⟨h1,of_decide_eq_true ha,of_decide_eq_true hb⟩
 ·exact no h2
theorem fieldsT_len {P:Program}{rec:Nat→Option ETy}:∀{fs:List Field} {o:Nat} {T:ETy},fieldsT P rec fs o=some T→True:=fun _=>trivial
theorem chooseRow {α:Type}{Q:Nat→α→Prop}:∀(n:Nat),(∀i,i<n→∃x,Q i x)→∃xs:List α,xs.length=n∧∀i x,xs[i]? =some x→Q i x
 |0,_=>⟨[],rfl,fun i x h=>by simp at h⟩
 |n+1,h=>by
  obtain⟨xs,hl,hx⟩:=chooseRow n fun i hi=>h i (by omega)
  obtain⟨y,hy⟩:=h n (by omega)
  refine⟨xs++[y],by simp[hl],fun i x hi=> ?_⟩
  by_cases hn:i<n
  ·rw[List.getElem?_append_left (by omega)]at hi
   exact hx i x hi
  ·have hlt:=(List.getElem?_eq_some_iff.1 hi).1
   simp at hlt
   have:i=n:=by omega
   subst this
   rw[List.getElem?_append_right (by omega)]at hi
   simp[hl]at hi
   subst hi
   exact hy
section
variable {H:Type} {enc:TypeId×Value→H} {P:Program} {w:World} {base:Nat} {spare:Nat→Bool} {held:Bool}
abbrev below (w:World):Cls:=fun b=>b<w.heap.size
theorem fields_vals {rec:Nat→Option ETy}{cs:List Value}{tr:TypeId→List Value→Option (DataW H×List MemPlace)}
 (hr:∀t T c y,rec t=some T→T.len=P.cellsOf t∧(tr t c=some y→∃x:T.den,All2 (Sg.ro w (below w)) (T.sgs x) c∧T.wf x)):
 ∀{fs:List Field} {o:Nat} {T:ETy},fieldsT P rec fs o=some T→(∀f,f∈fs→∃y,tr f.type ((cs.drop f.offset).take (P.cellsOf f.type))=some y)→
  ∃x:T.den,All2 (Sg.ro w (below w)) (T.sgs x) ((cs.drop o).take T.len)∧T.wf x
 |[],o,T,h,_=>by
  have:=Option.some.inj h
  subst this
  exact⟨(),by simp[ETy.sgs,ETy.len,All2],trivial⟩
 |f::fs,o,T,h,hf=>by
  unfold fieldsT at h
  split at h
  ·rename_i A ho hA
   obtain⟨B,hB,rfl⟩:=Option.map_eq_some_iff.1 h
   have ho':=of_decide_eq_true ho
   obtain⟨y,hy⟩:=hf f (by simp)
   obtain⟨hlen,hv⟩:=hr f.type A _ y hA
   obtain⟨x,hx,hw⟩:=hv hy
   obtain⟨z,hz,hwz⟩:=fields_vals hr hB fun g hg=>hf g (by simp[hg])
   obtain⟨u,hu,hwu⟩:=ETy.app_mk A B x z hw hwz
   refine⟨u,?_,hwu⟩
   rw[hu,ETy.app_len,List.take_add,List.drop_drop]
   refine All2.append ?_ ?_
   ·rw[←hlen,ho']at hx
    exact hx
   ·exact hz
  ·exact no h
theorem trod_vals :∀(n:Nat) {t:TypeId} {T:ETy} {fuel:Nat} {cs:List Value} {x:DataW H×List MemPlace},tyT P n t=some T→DataW.trod enc P w base spare held fuel t cs=some x→
 ∃y:T.den,All2 (Sg.ro w (below w)) (T.sgs y) cs∧T.wf y
 |0,t,T,_,_,_,h,_=>no h
 |n+1,t,T,fuel,cs,x,h,hx=>by
  obtain⟨h0,hlen,h1⟩:=tyT_succ h
  unfold tyT0 at h0
  split at h0
  ·rename_i k hu
   have:=Option.some.inj h0
   subst this
   obtain⟨m,rfl,_,hw⟩:=DataW.trod_int hu hx
   exact⟨m,⟨rfl,trivial⟩,hw⟩
  ·rename_i hu
   have:=Option.some.inj h0
   subst this
   obtain⟨m,rfl,_⟩:=DataW.trod_bool hu hx
   exact⟨m,⟨rfl,trivial⟩,trivial⟩
  ·rename_i hu
   have:=Option.some.inj h0
   subst this
   obtain⟨m,rfl,_,hw⟩:=DataW.trod_string hu hx
   exact⟨m,⟨rfl,trivial⟩,hw⟩
  ·rename_i e hu
   obtain⟨U,hU,rfl⟩:=Option.map_eq_some_iff.1 h0
   rcases DataW.trod_slice hu hx with⟨rfl,_⟩|⟨a,len,cap,elems,rest,m,_,rfl,_,hb,hlc,hcm,hel,hat,_,_⟩
   ·refine⟨([]:List U.den),⟨Or.inl ⟨rfl,none,0,rfl⟩,trivial⟩,?_⟩
    exact⟨Nat.zero_le _,fun i x h=>by simp[nth]at h⟩
   ·have hUl:U.len=P.cellsOf e∧1≤U.len:=by
     cases n with
     |zero=>exact no hU
     |succ n=>exact(tyT_succ hU).2
    have each:∀i,i<len→∃y:U.den,(a.spot=none∨i≠0)∧a.block<w.heap.size∧ETy.ro w (below w) U y a.block (a.off+i*U.len)∧U.wf y:=by
     intro i hi
     have hy:=hat i hi
     rw[List.getElem?_eq_getElem (by omega)]at hy
     obtain⟨c,hc,hy⟩:=Option.bind_eq_some_iff.1 hy
     obtain⟨y,hy,hw⟩:=trod_vals n hU hy
     obtain⟨_,hcl,hcc⟩:=World.cells?_some hc
     have hlt:=World.cells?_block hc (by omega)
     have hbl:∀q,(a.add q).block=a.block:=by intro q;unfold Addr.add;split<;>rfl
     have hof:∀q,(a.add q).off=a.off+q:=by intro q;unfold Addr.add;split<;>simp_all
     have hcell:∀j,j<U.len→∃v,c[j]? =some v∧w.cell? ⟨a.block,a.off+i*U.len+j,none⟩=some v:=by
      intro j hj
      have:=hcc j (by omega)
      rw[List.getElem?_eq_getElem (by omega)]at this
      refine⟨_,List.getElem?_eq_getElem (by omega),?_⟩
      have hs:=World.cell?_spot this
      have e1:(a.add (i*P.cellsOf e)).add j=⟨a.block,a.off+i*U.len+j,none⟩:=by
       rw[hUl.1]
       have e2:((a.add (i*P.cellsOf e)).add j).block=a.block:=by
        unfold Addr.add;split<;>split<;>rfl
       have e3:((a.add (i*P.cellsOf e)).add j).off=a.off+i*P.cellsOf e+j:=by
        unfold Addr.add;split<;>split<;>simp_all
       cases hq:(a.add (i*P.cellsOf e)).add j with
       |mk b o s=>
        rw[hq]at e2 e3 hs
        simp only at e2 e3 hs
        subst e2;subst e3;subst hs
        rfl
      rw[e1]at this
      exact this
     refine⟨y,?_,by rwa [hbl]at hlt,?_,hw⟩
     ·by_cases hi0:i=0
      ·left
       have:=hcc 0 (by omega)
       rw[List.getElem?_eq_getElem (by omega)]at this
       have hs:=World.cell?_spot this
       subst hi0
       simpa [Addr.add]using hs
      ·exact Or.inr hi0
     ·rw[ETy.ro_iff]
      intro j g hg
      have hj:j<U.len:=by
       have:=(List.getElem?_eq_some_iff.1 hg).1
       rwa [ETy.sgs_length]at this
      obtain⟨v,hv,hro⟩:=All2.get hy j g hg
      obtain⟨v',hv',hcv⟩:=hcell j hj
      rw[hv]at hv'
      have:=Option.some.inj hv'
      subst this
      exact⟨v,hcv,hro⟩
    obtain⟨xs,hxl,hxs⟩:=chooseRow len each
    refine⟨xs,⟨?_,trivial⟩,?_⟩
    ·by_cases hl0:len=0
     ·subst hl0
      exact Or.inl ⟨List.length_eq_zero_iff.1 hxl,some a,cap,rfl⟩
     ·right
      obtain⟨h0s,h0b,_⟩:=hxs 0 xs[0] (List.getElem?_eq_getElem (by omega))
      have hsp:a.spot=none:=h0s.resolve_right (fun h=>h rfl)
      refine⟨a.block,a.off,cap,?_,h0b,by rw[hxl];exact hlc,fun i x hi=>(hxs i x hi).2.2.1⟩
      rw[hxl]
      cases a
      simp only at hsp
      subst hsp
      rfl
    ·exact⟨by rw[hxl];omega,fun i x hi=>(hxs i x hi).2.2.2⟩
  ·rename_i fs hu
   obtain⟨xs,m,rfl,_,hcl,hxl,hf⟩:=DataW.trod_struct hu hx
   obtain⟨y,hy,hw⟩:=fields_vals (P:=P) (w:=w) (rec:=tyT P n) (cs:=cs) (tr:=DataW.trod enc P w base spare held m) (fun t' T' c y' h'=>⟨by
    cases n with
    |zero=>exact absurd h'.symm (Option.some_ne_none _)
    |succ n=>exact(tyT_succ h').2.1,fun hy=>trod_vals n h' hy⟩) h0 (fun f hfm=>by
     obtain⟨i,hi⟩:=List.getElem?_of_mem hfm
     have hi':fs[i]? =some f:=by simpa using hi
     have hlt:i<fs.size:=(Array.getElem?_eq_some_iff.1 hi').1
     exact⟨_,(hf i f hi').trans (List.getElem?_eq_getElem (by omega))⟩)
   refine⟨y,?_,hw⟩
   rw[List.drop_zero,hlen,←hcl,List.take_length]at hy
   exact hy
  ·exact no h0
def isAgg (P:Program)(t:Nat):Bool:=
 match P.underlying t with
 |some (.struct _)=>true
 |_=>false
def paramsT (P:Program)(n:Nat):List TypeId→Option (ETy×List (Bool×Nat))
 |[]=>some (.nil,[])
 |t::ts=>
  match tyT P n t,paramsT P n ts with
  |some T,some r=>some (T.app r.1,(isAgg P t,T.len)::r.2)
  |_,_=>none
theorem okWide_cells {r:Reach}{b0:Nat}{t:TypeId}{v:Value}{n:Nat}{T:ETy}(hT:tyT P n t=some T)(hv:Value.okWide P w r b0 t v):
 (isAgg P t=true→∃cs,v= .agg cs)∧(isAgg P t=false→v.cells.toList=[v]):=by
 cases n with
 |zero=>exact no hT
 |succ n=>
  obtain⟨h0,_,_⟩:=tyT_succ hT
  unfold tyT0 at h0
  unfold isAgg
  unfold Value.okWide at hv
  split at h0
  ·rename_i k hu
   rw[hu]at hv⊢
   refine⟨fun h=>absurd h Bool.false_ne_true,fun _=> ?_⟩
   simp only[Cell.okWide,hu]at hv
   cases v<;>simp_all [Cell.ok,Value.cells]
  ·rename_i hu
   rw[hu]at hv⊢
   refine⟨fun h=>absurd h Bool.false_ne_true,fun _=> ?_⟩
   simp only[Cell.okWide,hu]at hv
   cases v<;>simp_all [Cell.ok,Value.cells]
  ·rename_i hu
   rw[hu]at hv⊢
   refine⟨fun h=>absurd h Bool.false_ne_true,fun _=> ?_⟩
   simp only[Cell.okWide,hu]at hv
   cases v<;>simp_all [Cell.ok,Value.cells]
  ·rename_i e hu
   rw[hu]at hv⊢
   refine⟨fun h=>absurd h Bool.false_ne_true,fun _=> ?_⟩
   simp only[Cell.okWide,hu]at hv
   cases v<;>simp_all [Cell.ok,Value.cells]
  ·rename_i fs hu
   rw[hu]at hv⊢
   obtain⟨cs,rfl,_⟩:=hv
   exact⟨fun _=>⟨cs,rfl⟩,fun h=>absurd h.symm Bool.false_ne_true⟩
  ·exact no h0
theorem args_vals {r:Reach}{b0:Nat}(n:Nat):∀{ts:List TypeId} {vs:List Value} {ds:List (DataW H)} {p:List MemPlace} {A:ETy} {ps:List (Bool×Nat)},paramsT P n ts=some (A,ps)→
 DataW.TrodAll enc P w base spare held ts vs ds p→(∀(j:Nat) t v,ts[j]? =some t→vs[j]? =some v→Value.okWide P w r b0 t v)→
 ∃(x:A.den) (ls:List Value),All2 (Sg.ro w (below w)) (A.sgs x) ls∧A.wf x∧vs=packV ps ls
 |[],[],[],p,A,ps,h,_,_=>by
  have:=Option.some.inj h
  injection this with h1 h2
  subst h1;subst h2
  exact⟨(),[],trivial,trivial,rfl⟩
 |t::ts,v::vs,d::ds,p,A,ps,h,hd,hok=>by
  unfold paramsT at h
  split at h
  ·rename_i T q hT hq
   have:=Option.some.inj h
   injection this with h1 h2
   subst h1;subst h2
   obtain⟨p1,p2,⟨fuel,h1⟩,h2,_⟩:=hd
   obtain⟨x,hx,hwx⟩:=trod_vals n hT h1
   obtain⟨z,ls,hz,hwz,rfl⟩:=args_vals (A:=q.1) (ps:=q.2) n hq h2 fun j t v h h'=>hok (j+1) t v h h'
   obtain⟨u,hu,hwu⟩:=ETy.app_mk T q.1 x z hwx hwz
   have hl:v.cells.toList.length=T.len:=by rw[←All2.length hx,ETy.sgs_length]
   refine⟨u,v.cells.toList++ls,by rw[hu];exact All2.append hx hz,hwu,?_⟩
   obtain⟨ha,hb⟩:=okWide_cells hT (hok 0 t v rfl rfl)
   have e:packV ((isAgg P t,T.len)::q.2) (v.cells.toList++ls)=(match isAgg P t with|true=>Value.agg ((v.cells.toList++ls).take T.len).toArray|false=>(v.cells.toList++ls).headD Go.undef)::packV q.2 ((v.cells.toList++ls).drop T.len):=rfl
   rw[e,←hl,List.drop_left,List.take_left]
   cases hg:isAgg P t with
   |true=>
    obtain⟨cs,rfl⟩:=ha hg
    simp[Value.cells]
   |false=>
    rw[hb hg]
    rfl
  ·exact no h
 |[],_::_,_,_,_,_,_,h,_=>by cases h
 |_::_,[],_,_,_,_,_,h,_=>by cases h
 |[],[],_::_,_,_,_,_,h,_=>by cases h
 |_::_,_::_,[],_,_,_,_,h,_=>by cases h
theorem relAll_args {R:Cls}:∀{gs:List Sg} {vs:List Value} (q:Nat),All2 (Sg.ro w R) gs vs→relAll w R (argMds [] q gs) vs []
 |[],[],_,_=>rfl
 |g::gs,v::vs,q,h=>⟨[],[],rfl,⟨h.1,rfl⟩,relAll_args (q+1) h.2⟩
 |[],_::_,_,h=>h.elim
 |_::_,[],_,h=>h.elim
theorem Ext.below {w w':World}(h:Ext [] w w'):Below w.heap.size w w':=
 ⟨h.os,h.tape,h.out,h.sz,fun k hk=>h.fr k hk (by simp)⟩
theorem below_trodAll (hl:laidOutB P=true){w':World}(hb:Below w.heap.size w w'):∀{ts:List TypeId} {vs:List Value} {ds:List (DataW H)} {p:List MemPlace},
 (ts.all fun t=>P.readableRec t&&decide (t<P.types.size))=true→(∀x∈p,x.block<w.heap.size)→DataW.TrodAll enc P w 0 (fun _=>true) true ts vs ds p→DataW.TrodAll enc P w' 0 (fun b=>decide (b<w.heap.size)) true ts vs ds p
 |[],[],[],_,_,_,h=>h
 |t::ts,v::vs,d::ds,p,ht,hp,h=>by
  obtain⟨p1,p2,h1,h2,rfl⟩:=h
  simp only[List.all_cons,Bool.and_eq_true,decide_eq_true_eq]at ht
  exact⟨p1,p2,Below.trod hl ht.1.1 ht.1.2 h1 hb fun x hx=>hp x (by simp[hx]),below_trodAll hl hb ht.2 (fun x hx=>hp x (by simp[hx])) h2,rfl⟩
 |[],_::_,_,_,_,_,h=>by cases h
 |_::_,[],_,_,_,_,h=>by cases h
 |[],[],_::_,_,_,_,h=>by cases h
 |_::_,_::_,[],_,_,_,h=>by cases h
end
theorem law_run {P:Program}{f:Nat}{A:ETy}{ps:List (Bool×Nat)}{fn:A.den→Option Bool}(hv:Valid P f ⟨A, .cons .bool .nil,fn,[],ps,[(false,1)],[false],[]⟩)
 (pure:∀x:A.den,A.wf x→fn x=some true) {w:World} {x:A.den} {ls:List Value} (hx:All2 (Sg.ro w (below w)) (A.sgs x) ls) (hw:A.wf x):
 Calls P f (packV ps ls).toArray w fun e w'=>e= .returned (.bool true)∧Below w.heap.size w w':=by
 refine(hv.calls x true (pure x hw) w ls (below w) [] (relAll_args 0 hx) (fun q hq=>by cases hq) List.nodup_nil (fun b hb=>by cases hb) (fun b hb=>hb)).mono ?_
 rintro e w' ⟨rs,fo,fr,R',rfl,_,hr,_,_,_,_,hext,_⟩
 match rs,hr with
 |[v],hr=>
  obtain⟨f1,f2,_,h1,_⟩:=hr
  have:v= .bool true:=h1.1
  subst this
  exact⟨rfl,hext.below⟩
end V
end Go.Proofs.YtcbeaoigenjoeaeGreat
