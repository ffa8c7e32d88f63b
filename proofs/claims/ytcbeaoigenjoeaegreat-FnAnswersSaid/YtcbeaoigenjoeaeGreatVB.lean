/- A verified symbolic evaluator, part B. -/
import Derived.Laws.Tables
import Derived.Laws.BitsLemmas
import Derived.Deep.AppendSrc
import Derived.Test.YtcbeaoigenjoeaeGreatVA
namespace Go.Proofs.YtcbeaoigenjoeaeGreat
namespace V
set_option linter.unusedSimpArgs false
set_option linter.unusedVariables false
theorem packs_sgs :∀(gs:List Sg),(packs gs).T.sgs (packs gs).x=gs
 |[]=>rfl
 |g::gs=>by
  have ih:=packs_sgs gs
  have key:∀(t:LTy) (y:t.den) (p:Pk),p.T.sgs p.x=gs→(Pk.cons t y p).T.sgs (Pk.cons t y p).x=t.sg y::gs:=by
   intro t y p hp
   obtain⟨T,x⟩:=p
   cases T with
   |nil=>simp[ETy.sgs]at hp;subst hp;rfl
   |cons u ts=>simp only[Pk.cons,ETy.sgs];rw[←hp]
  show(Pk.add g (packs gs)).T.sgs (Pk.add g (packs gs)).x=_
  cases g<;>exact key _ _ _ ih
theorem packs_cons (g:Sg)(gs:List Sg):∃t ts,(packs (g::gs)).T= .cons t ts:=by
 have h:=packs_sgs (g::gs)
 cases hT:(packs (g::gs)).T with
 |nil=>
  have:((packs (g::gs)).T.sgs (packs (g::gs)).x).length=0:=by rw[ETy.sgs_length,hT];rfl
  rw[h]at this
  simp at this
 |cons t ts=>exact⟨t,ts,rfl⟩
theorem setLs_length {ls ms:List Lf}{off:Nat}(h:off+ms.length≤ls.length):(setLs ls off ms).length=ls.length:=by
 simp[setLs]
 omega
theorem setLs_get {α:Type}{ls ms:List α}{off:Nat}(h:off+ms.length≤ls.length)(j:Nat):(ls.take off++ms++ls.drop (off+ms.length))[j]? =if j<off then ls[j]? else if j<off+ms.length then ms[j-off]? else ls[j]? :=by
 by_cases h1:j<off
 ·rw[if_pos h1,List.append_assoc,List.getElem?_append_left (by simp;omega),List.getElem?_take]
  simp[h1]
 ·rw[if_neg h1,List.append_assoc,List.getElem?_append_right (by simp;omega)]
  simp only[List.length_take,Nat.min_eq_left (by omega:off≤ls.length)]
  by_cases h2:j<off+ms.length
  ·rw[if_pos h2,List.getElem?_append_left (by omega)]
  ·rw[if_neg h2,List.getElem?_append_right (by omega),List.getElem?_drop]
   congr 1
   omega
theorem fold_get :∀(vs:List Value) (cs:Array Value) (off:Nat),off+vs.length≤cs.size→∀k,
 (vs.zipIdx k).foldl (fun cs (x:Value×Nat)=>cs.setIfInBounds (off+x.2-k) x.1) cs=(vs.zipIdx k).foldl (fun cs (x:Value×Nat)=>cs.setIfInBounds (off+x.2-k) x.1) cs:=by intros;rfl
theorem fold_size :∀(vs:List Value) (cs:Array Value) (off k:Nat),((vs.zipIdx k).foldl (fun cs (x:Value×Nat)=>cs.setIfInBounds (off+x.2) x.1) cs).size=cs.size
 |[],cs,off,k=>rfl
 |v::vs,cs,off,k=>by
  simp only[List.zipIdx_cons,List.foldl_cons]
  rw[fold_size vs _ off (k+1)]
  simp
theorem fold_get? :∀(vs:List Value) (cs:Array Value) (off k j:Nat),off+k+vs.length≤cs.size→
 ((vs.zipIdx k).foldl (fun cs (x:Value×Nat)=>cs.setIfInBounds (off+x.2) x.1) cs)[j]? =if j<off+k then cs[j]? else if j<off+k+vs.length then vs[j-(off+k)]? else cs[j]?
 |[],cs,off,k,j,h=>by
  simp only[List.zipIdx_nil,List.foldl_nil,List.length_nil,Nat.add_zero]
  by_cases h1:j<off+k<;>simp[h1]
 |v::vs,cs,off,k,j,h=>by
  simp only[List.length_cons]at h
  simp only[List.zipIdx_cons,List.foldl_cons]
  rw[fold_get? vs _ off (k+1) j (by simp;omega)]
  by_cases h1:j<off+k
  ·rw[if_pos (by omega),if_pos h1,Array.getElem?_setIfInBounds_ne (by omega)]
  ·by_cases h2:j=off+k
   ·subst h2
    rw[if_pos (by omega),if_neg (by omega),if_pos (by simp)]
    rw[Array.getElem?_setIfInBounds_self_of_lt (by omega)]
    simp
   ·rw[if_neg (by omega),if_neg h1]
    by_cases h3:j<off+(k+1)+vs.length
    ·rw[if_pos h3,if_pos (by simp;omega)]
     rw[show j-(off+k)=(j-(off+(k+1)))+1 by omega]
     rfl
    ·rw[if_neg h3,if_neg (by simp;omega),Array.getElem?_setIfInBounds_ne (by omega)]
section
variable {P:Program} {E:Env} {F:Fr} {c:Cc} {w:World} {R:Cls} {σ:St} {a:Act} {site:Nat} {o:Oper} {d:D}
theorem All2.set {α:Type}{Q:α→Value→Prop}{ls ms:List α}{cs:Array Value}{vs:List Value}{off:Nat}(h:All2 Q ls cs.toList)(h2:All2 Q ms vs)(hl:off+ms.length≤ls.length):
 All2 Q (ls.take off++ms++ls.drop (off+ms.length)) ((vs.zipIdx 0).foldl (fun cs (x:Value×Nat)=>cs.setIfInBounds (off+x.2) x.1) cs).toList:=by
 have hl1:=h.length
 have hl2:=h2.length
 have hlen:(ls.take off++ms++ls.drop (off+ms.length)).length=ls.length:=by simp;omega
 refine All2.of_get (by rw[hlen,hl1];simp only[Array.length_toList];rw[fold_size]) (fun j x v hx hv=> ?_)
 rw[setLs_get hl]at hx
 rw[Array.getElem?_toList,fold_get? vs cs off 0 j (by simp only[Array.length_toList]at hl1;omega)]at hv
 simp only[Nat.add_zero]at hv
 by_cases h1:j<off
 ·rw[if_pos h1]at hx hv
  obtain⟨u,hu,hq⟩:=h.get j x hx
  rw[Array.getElem?_toList]at hu
  rw[hu]at hv
  cases hv
  exact hq
 ·rw[if_neg h1]at hx hv
  by_cases h3:j<off+ms.length
  ·rw[if_pos h3]at hx
   rw[if_pos (by omega)]at hv
   obtain⟨u,hu,hq⟩:=h2.get _ x hx
   rw[hu]at hv
   cases hv
   exact hq
  ·rw[if_neg h3]at hx
   rw[if_neg (by omega)]at hv
   obtain⟨u,hu,hq⟩:=h.get j x hx
   rw[Array.getElem?_toList]at hu
   rw[hu]at hv
   cases hv
   exact hq
theorem V1.cells {g:Bool}{ls:List Lf}{v:Value}{H:Hp}(h:V1.rel c w R H g ls v)(hone:g=false→v.oneCell'=true):All2 (Lf.rel c w R H) ls v.cells.toList:=by
 cases g with
 |true=>
  obtain⟨vs,rfl,h⟩:=h
  simpa [Value.cells]using h
 |false=>
  obtain⟨l,rfl,h⟩:=h
  have:v.cells= #[v]:=by
   have:=hone rfl
   cases v<;>simp[Value.oneCell']at this<;>rfl
  rw[this]
  exact⟨h,trivial⟩
theorem alive_one (h:Rel F c w R σ a){l:Lf}{v:Value}(ha:alive σ.heap l=true)(hv:l.rel c w R σ.heap v):v.oneCell'=true:=by
 cases l with
 |val g=>exact Sg.ro_one hv
 |nil0=>obtain⟨_,rfl⟩:=hv;rfl
 |nilp=>cases hv;rfl
 |fnl f caps=>obtain⟨_,rfl,_⟩:=hv;rfl
 |rptr p j=>obtain⟨_,_,rfl,_⟩:=hv;rfl
 |ref n=>
  simp only[alive]at ha
  split at ha
  ·rename_i T dd xs hn
   have hv:=hv T dd xs hn
   cases hz:c.at_ n with
   |none=>rw[hz]at hv;obtain⟨_,rfl⟩:=hv;rfl
   |some z=>rw[hz]at hv;obtain⟨_,rfl,_⟩:=hv;rfl
  ·cases ha
 |eptr n i j=>
  simp only[alive]at ha
  split at ha
  ·rename_i T dd xs hn
   obtain⟨_,_,_,_,rfl⟩:=hv T dd xs hn
   rfl
  ·cases ha
 |ptr n off=>
  simp only[alive]at ha
  split at ha
  ·rename_i ls hn
   obtain⟨_,_,rfl⟩:=hv ls hn
   rfl
  ·cases ha
 |pref=>simp[alive]at ha
 |dead=>simp[alive]at ha
theorem alives_one (h:Rel F c w R σ a):∀{ls:List Lf} {vs:List Value},alives σ.heap ls=true→All2 (Lf.rel c w R σ.heap) ls vs→∀v∈vs,v.oneCell'=true
 |[],[],_,_,v,hv=>by cases hv
 |[],_::_,_,hr,_,_=>hr.elim
 |_::_,[],_,hr,_,_=>hr.elim
 |l::ls,u::vs,ha,hr,v,hv=>by
  simp only[alives,Bool.and_eq_true]at ha
  rcases List.mem_cons.1 hv with rfl|hv
  ·exact alive_one h ha.1 hr.1
  ·exact alives_one h ha.2 hr.2 v hv
theorem V1.cells' (h:Rel F c w R σ a){g:Bool}{ls:List Lf}{v:Value}(hv:V1.rel c w R σ.heap g ls v)(ha:alives σ.heap ls=true):All2 (Lf.rel c w R σ.heap) ls v.cells.toList∧∀u∈v.cells.toList,u.oneCell'=true:=by
 have h1:All2 (Lf.rel c w R σ.heap) ls v.cells.toList:=by
  refine V1.cells hv (fun hg=> ?_)
  subst hg
  obtain⟨l,rfl,hl⟩:=hv
  simp only[alives,Bool.and_true]at ha
  exact alive_one h ha hl
 exact⟨h1,alives_one h ha h1⟩
theorem buildLs_run (h:Rel F c w R σ a){fields:List (Nat×Nat×Bool)}{places:Array (Nat×Nat)}(hp:∀(f:Nat) x,fields[f]? =some x→places[f]? =some (x.1,x.2.1)):∀{parts:List (Nat×Operand)} {ls ms:List Lf} {cs:Array Value},
 buildLs fields σ ls parts=some ms→All2 (Lf.rel c w R σ.heap) ls cs.toList→∃cs',Instr.fill (places[·]?) cs (parts.map fun p=>(p.1,a.eval p.2))=some cs'∧All2 (Lf.rel c w R σ.heap) ms cs'.toList
 |[],ls,ms,cs,hb,hr=>by
  simp[buildLs]at hb
  subst hb
  exact⟨cs,rfl,hr⟩
 |(f,x)::parts,ls,ms,cs,hb,hr=>by
  unfold buildLs at hb
  split at hb
  ·rename_i off n g' g ns hf hx
   split at hb
   ·rename_i hc
    simp only[Bool.and_eq_true]at hc
    obtain⟨⟨h1,h2⟩,h3⟩:=hc
    have h1:=Nat.eq_of_beq_eq_true h1
    have h2:=Nat.le_of_ble_eq_true h2
    obtain⟨hcs,_⟩:=V1.cells' h (eval_rel h hx) h3
    have hlen:=hcs.length
    have hlen2:=hr.length
    simp only[Array.length_toList]at hlen hlen2
    obtain⟨cs',h4,h5⟩:=buildLs_run h hp hb (All2.set (vs:=(a.eval x).cells.toList) hr hcs (by omega))
    refine⟨cs',?_,h5⟩
    simp only[List.map_cons,Instr.fill,hp f _ hf]
    rw[if_neg (by simp;omega)]
    rw[←Array.foldl_toList,Array.toList_zipIdx]
    exact h4
   ·cases hb
  ·cases hb
theorem op_build (hE:EnvOk P E)(h:Rel F c w R σ a){t:Nat}{parts:Array (Nat×Operand)}(hop:o.op= .build t parts)(hd:opD E σ site o some=some d):Does P o a w (Post F σ a d):=by
 simp only[opD,hop]at hd
 split at hd
 ·rename_i i hi
  split at hd
  ·rename_i ls hk hb
   injection hd with hd
   subst hd
   have hT:=hE.ty t i hi
   have hks:i.k= .st:=by cases hk':i.k<;>simp[hk',Tk.agg]at hk;rfl
   obtain⟨dd,hu,_,_,_,_,_,hst⟩:=hT.und
   obtain⟨fs,rfl,_,hfl,hfs⟩:=hst hks
   obtain⟨info,z,hin,_,_,_,hz,_,_,hzr,_⟩:=hT.info
   have hinfo:∀f∈fs.toList,∃i',P.info? f.type=some i':=by
    intro f hf
    obtain⟨j,hj⟩:=List.mem_iff_getElem?.1 hf
    have hjl:j<i.fields.length:=by
     have:=(List.getElem?_eq_some_iff.1 hj).1
     simp only[Array.length_toList]at this
     omega
    obtain⟨f',d',i',h1,h2,h3,_⟩:=hfs j _ (List.getElem?_eq_getElem hjl)
    rw[Array.getElem?_toList]at hj
    rw[hj]at h1
    cases h1
    exact⟨i',h3⟩
   have hmap:∀(l:List Field),(∀f∈l,∃i',P.info? f.type=some i')→l.mapM (fun f=>(P.info? f.type).map fun i=>(f.offset,i.size))=some (l.map fun f=>(f.offset,((P.info? f.type).map (·.size)).getD 0)):=by
    intro l
    induction l with
    |nil=>intro _;rfl
    |cons f l ih=>
     intro hl
     obtain⟨i',hi'⟩:=hl f (by simp)
     simp[List.mapM_cons,hi',ih (fun f hf=>hl f (by simp[hf]))]
   have hpl:=hmap fs.toList hinfo
   obtain⟨cs',h4,h5⟩:=buildLs_run (cs:=z.cells) (places:=(fs.toList.map fun f=>(f.offset,((P.info? f.type).map (·.size)).getD 0)).toArray) h (fun f x hx=>by
    obtain⟨f',d',i',h1,h2,h3,h6,h7,_⟩:=hfs f x hx
    simp[h1,h3,h6,h7]) hb (hzr c w R σ.heap)
   have hbuilt:P.built t (parts.map fun(i,x)=>(i,a.eval x)).toList=some cs':=by
    unfold Program.built
    simp only[hin,hu,hz,hpl]
    simpa using h4
   refine Does.run (v:= .agg cs') (w':=w) ?_ (Post.pure h ⟨cs'.toList,by simp,h5⟩)
   have:=run_build w t (parts.map fun(i,x)=>(i,a.eval x)) cs' hbuilt
   simp[execOp,hop,this]
  ·cases hd
 ·cases hd
theorem boxNames_caps {H:Hp}:∀{cs:List (Bool×List Lf)} {ns:List Nat} {vs:List Value},boxNames cs=some ns→All2 (fun p v=>V1.rel c w R H p.1 p.2 v) cs vs→capsRel c H ns vs
 |[],ns,vs,hb,h=>by
  simp[boxNames]at hb
  subst hb
  cases vs with
  |nil=>trivial
  |cons _ _=>exact h.elim
 |(g,ls)::cs,ns,vs,hb,h=>by
  unfold boxNames at hb
  split at hb
  ·rename_i heq
   cases heq
  ·rename_i n r heq
   cases heq
   split at hb
   ·rename_i s hs
    injection hb with hb
    subst hb
    cases vs with
    |nil=>exact h.elim
    |cons v vs=>exact⟨V1.one h.1,boxNames_caps hs h.2⟩
   ·cases hb
  ·cases hb
theorem op_makeFunc (h:Rel F c w R σ a){f:Nat}{first captured:Array Operand}(hop:o.op= .makeFunc (.func f) first captured)(hd:opD E σ site o some=some d):Does P o a w (Post F σ a d):=by
 simp only[opD,hop]at hd
 have hrun:(execOp a.eval o).run P w= .ok (.value (.func (.func f) (first.map a.eval) (captured.map a.eval))) w:=by simp[execOp,hop,Instr.makeFunc]
 have hmap:∀(xs:Array Operand),(xs.map a.eval)=(xs.toList.map a.eval).toArray:=by intro xs;apply Array.ext';simp
 split at hd
 ·rename_i h1 h2
  injection hd with hd
  subst hd
  have r1:=avs_rel h h1
  have r2:=avs_rel h h2
  refine Does.run hrun (Post.pure h ⟨_,rfl,[], #[],?_,rfl,rfl⟩)
  have e1:first.toList.map a.eval=[]:=by have:=r1.length;exact List.eq_nil_of_length_eq_zero this.symm
  have e2:captured.toList.map a.eval=[]:=by have:=r2.length;exact List.eq_nil_of_length_eq_zero this.symm
  rw[hmap,hmap,e1,e2]
  rfl
 ·rename_i cs hneg h1 h2
  split at hd
  ·rename_i ns hn
   injection hd with hd
   subst hd
   have r1:=avs_rel h h1
   have r2:=avs_rel h h2
   refine Does.run hrun (Post.pure h ⟨_,rfl,captured.toList.map a.eval,?_,boxNames_caps hn r2⟩)
   have e1:first.toList.map a.eval=[]:=by have:=r1.length;exact List.eq_nil_of_length_eq_zero this.symm
   rw[hmap,hmap,e1]
  ·cases hd
 ·rename_i ls h1 h2
  split at hd
  ·rename_i g gs hg
   injection hd with hd
   subst hd
   have r1:=avs_rel h h1
   have r2:=avs_rel h h2
   have e2:captured.toList.map a.eval=[]:=by have:=r2.length;exact List.eq_nil_of_length_eq_zero this.symm
   obtain⟨v,e1,hv⟩:=one_of r1
   obtain⟨vs,rfl,hvs⟩:=hv
   obtain⟨t,ts,hT⟩:=packs_cons g gs
   refine Does.run hrun (Post.pure h ⟨_,rfl,vs, #[],?_,?_,rfl⟩)
   ·rw[hmap,hmap,e1,e2,hT]
    rfl
   ·rw[ETy.vals_iff,packs_sgs]
    exact vals_rel hg hvs
  ·cases hd
 ·cases hd
end
def optR :Option Int→Option Value→Prop
 |none,none=>True
 |some n,some x=>∃k,x= .int k n
 |_,_=>False
theorem rng_some {α:Type}{i j:Int}{n:Nat}{x:Option α}{y:α}(h:rng i j n x=some y):0≤i∧i≤j∧j≤n∧x=some y:=by
 unfold rng at h
 by_cases h1:0≤i
 ·by_cases h2:i≤j
  ·by_cases h3:j≤(n:Int)
   ·simp[h1,h2,h3]at h
    exact⟨h1,h2,h3,h⟩
   ·simp[h1,h2,h3]at h
  ·simp[h1,h2]at h
 ·simp[h1]at h
theorem bounds_run {P:Program}{w:World}{g:Bool}{len cap:Nat}{lo hi:Option Int}{lv hv:Option Value}(hl:optR lo lv)(hh:optR hi hv)(h0:0≤lo.getD 0)(h1:lo.getD 0≤hi.getD len)(h2:hi.getD len≤cap):
 (Instr.sliceBounds g len cap lv hv none).run P w= .ok ((lo.getD 0).toNat,(hi.getD len).toNat,cap) w:=by
 cases hi with
 |none=>
  cases hv with
  |some v=>exact hh.elim
  |none=>
   cases lo with
   |none=>
    cases lv with
    |some v=>exact hl.elim
    |none=>simp[Instr.sliceBounds]
   |some i=>
    cases lv with
    |none=>exact hl.elim
    |some v=>
     obtain⟨k,rfl⟩:=hl
     simp only[Option.getD_some,Option.getD_none]at h0 h1⊢
     simp[Instr.sliceBounds,Instr.sliceBound,asIntOf,h0,h1]
 |some q=>
  cases hv with
  |none=>exact hh.elim
  |some v=>
   obtain⟨k,rfl⟩:=hh
   simp only[Option.getD_some]at h1 h2⊢
   have hq:0≤q:=by omega
   cases lo with
   |none=>
    cases lv with
    |some v=>exact hl.elim
    |none=>simp[Instr.sliceBounds,Instr.sliceBound,asIntOf,hq,h2]
   |some i=>
    cases lv with
    |none=>exact hl.elim
    |some v=>
     obtain⟨k',rfl⟩:=hl
     simp only[Option.getD_some]at h0 h1⊢
     have h3:i≤(q.toNat:Int):=by omega
     have h4:i≤max q 0:=by omega
     simp[Instr.sliceBounds,Instr.sliceBound,asIntOf,h0,hq,h2,h3,h4]
theorem cutL_get {β:Type}{xs:List β}{lo hi:Option Int}(h0:0≤lo.getD 0)(h1:lo.getD 0≤hi.getD xs.length)(h2:hi.getD xs.length≤xs.length):
 (cutL xs lo hi).length=(hi.getD xs.length).toNat-(lo.getD 0).toNat∧∀i x,nth (cutL xs lo hi) i=some x→nth xs ((lo.getD 0).toNat+i)=some x:=by
 cases lo with
 |none=>
  cases hi with
  |none=>exact⟨by simp[cutL],fun i x h=>by simpa [cutL]using h⟩
  |some j=>
   simp only[Option.getD_some,Option.getD_none]at h1 h2⊢
   refine⟨by simp[cutL];omega,fun i x h=> ?_⟩
   simp only[cutL,nth,List.getElem?_take]at h
   split at h
   ·simpa using h
   ·cases h
 |some i=>
  cases hi with
  |none=>
   simp only[Option.getD_some,Option.getD_none]at h0 h1 h2⊢
   refine⟨by simp[cutL],fun q x h=> ?_⟩
   simpa [cutL,nth,List.getElem?_drop]using h
  |some j=>
   simp only[Option.getD_some]at h0 h1 h2⊢
   refine⟨by simp[cutL];omega,fun q x h=> ?_⟩
   simp only[cutL,nth,List.getElem?_drop,List.getElem?_take]at h
   split at h
   ·exact h
   ·cases h
theorem look_one {α:Type}{N n:Nat}{e:α}(h:look [(N,e)] n≠none):n=N:=by
 rw[look_cons]at h
 by_cases hn:n=N
 ·exact hn
 ·rw[if_neg hn]at h;exact absurd rfl h
theorem look_newH_add {σ:St}{d:D}{n:Nat}{e:Ent}(h:look d.adds n=some e):look (newH σ d) n=some e:=by rw[look_newH,h]
section
variable {P:Program} {E:Env} {F:Fr} {c:Cc} {w:World} {R:Cls} {σ:St} {a:Act} {site:Nat} {o:Oper} {d:D}
theorem getI_rel (h:Rel F c w R σ a){x:Option Operand}{r:Option Int}(hg:getI σ x=some r):optR r (x.map a.eval):=by
 cases x with
 |none=>injection hg with hg;subst hg;trivial
 |some y=>
  simp only[getI]at hg
  split at hg
  ·rename_i n hn
   injection hg with hg
   subst hg
   unfold intOf? at hn
   split at hn
   ·rename_i k m he
    injection hn with hn
    subst hn
    exact⟨k,V1.one (eval_rel h he)⟩
   ·cases hn
  ·cases hg
theorem sliceAt_run {t e:Nat}{j:TI}{ad:Option Addr}{len cap:Nat}{lo hi:Option Int}{lv hv:Option Value}(hu:P.underlying t=some (.slice e))(hj:TiOk P e j)(hl:optR lo lv)(hh:optR hi hv)(h0:0≤lo.getD 0)(h1:lo.getD 0≤hi.getD len)(h2:hi.getD len≤cap):
 (Instr.sliceAt t (.slice ad len cap) lv hv none).run P w= .ok (.slice (if cap=(lo.getD 0).toNat then ad else ad.map (·.add ((lo.getD 0).toNat*j.zero.length))) ((hi.getD len).toNat-(lo.getD 0).toNat) (cap-(lo.getD 0).toNat)) w:=by
 have hb:=bounds_run (P:=P) (w:=w) (g:=true) hl hh h0 h1 h2
 simp[Instr.sliceAt,run_underlying hu,Instr.slice,hb,run_sizeOf hj]
theorem slice0_run {t e:Nat}{j:TI}{ad:Option Addr}{len cap:Nat}{lv hv mv:Option Value}(hu:P.underlying t=some (.slice e))(hj:TiOk P e j)(hl:optR (some 0) lv)(hh:optR (some 0) hv)(hm:optR (some 0) mv):
 ∃ad',(Instr.sliceAt t (.slice ad len cap) lv hv mv).run P w= .ok (.slice ad' 0 0) w:=by
 cases lv with
 |none=>exact hl.elim
 |some lv=>
  cases hv with
  |none=>exact hh.elim
  |some hv=>
   cases mv with
   |none=>exact hm.elim
   |some mv=>
    obtain⟨k1,rfl⟩:=hl
    obtain⟨k2,rfl⟩:=hh
    obtain⟨k3,rfl⟩:=hm
    exact⟨_,by simp[Instr.sliceAt,run_underlying hu,Instr.slice,Instr.sliceBounds,Instr.sliceBound,asIntOf,run_sizeOf hj];rfl⟩
theorem isZ_eq {x:Option Int}(h:isZ x=true):x=some 0:=by
 unfold isZ at h
 split at h
 ·rfl
 ·cases h
theorem isZN_eq {x:Option Int}(h:isZN x=true):x=none∨x=some 0:=by
 unfold isZN at h
 split at h
 ·exact .inl rfl
 ·exact .inr rfl
 ·cases h
theorem flat_own :∀{T:ETy},T.flat=true→∀(x:T.den) (q:Nat) (g:Sg),(T.sgs x)[q]? =some g→g.t.flat=true
 | .nil,_,x,q,g,h=>by simp[ETy.sgs]at h
 | .cons t .nil,hf,x,0,g,h=>by
   simp only[ETy.flat,Bool.and_true]at hf
   simp[ETy.sgs]at h
   subst h
   cases t<;>first|exact hf|rfl
 | .cons t .nil,hf,x,q+1,g,h=>by simp[ETy.sgs]at h
 | .cons t (.cons u ts),hf,x,0,g,h=>by
   rw[ETy.flat,Bool.and_eq_true]at hf
   simp[ETy.sgs]at h
   subst h
   cases t<;>first|exact hf.1|rfl
 | .cons t (.cons u ts),hf,x,q+1,g,h=>by
   rw[ETy.flat,Bool.and_eq_true]at hf
   exact flat_own (T:= .cons u ts) hf.2 x.2 q g (by simpa [ETy.sgs]using h)
theorem cellsOwn_flat {w:World}:∀{gs:List Sg} {b o:Nat} {fp:List Nat},(∀(q:Nat) g,gs[q]? =some g→g.t.flat=true)→cellsOwn w gs b o fp→fp=[]
 |[],_,_,_,_,h=>h
 |g::gs,b,o,fp,hf,h=>by
  obtain⟨f1,f2,rfl,⟨v,hc,hv⟩,hr⟩:=h
  have h1:=(Sg.own_flat (R:=fun _=>True) (hf 0 g rfl) hv).2
  have h2:=cellsOwn_flat (fun q g' hq=>hf (q+1) g' (by simpa using hq)) hr
  rw[h1,h2]
  rfl
theorem cellsOwn_of_ro {w:World}{R:Cls}:∀{gs:List Sg} {b o:Nat},(∀(q:Nat) g,gs[q]? =some g→g.t.flat=true)→cellsRo w R gs b o→cellsOwn w gs b o []
 |[],_,_,_,_=>rfl
 |g::gs,b,o,hf,h=>by
  obtain⟨v,hc,hv⟩:=h 0 g rfl
  refine⟨[],[],rfl,⟨v,hc,?_⟩,cellsOwn_of_ro (R:=R) (fun q g' hq=>hf (q+1) g' (by simpa using hq)) (fun j g' hg=> ?_)⟩
  ·have:=hf 0 g rfl
   cases g<;>simp[Sg.t,LTy.flat]at this<;>exact⟨hv,rfl⟩
  ·have:=h (j+1) g' (by simpa using hg)
   rw[show o+1+j=o+(j+1) by omega]
   exact this
theorem rowOwn_flat {w:World}{T:ETy}{b:Nat}(hf:T.flat=true):∀{xs:List T.den} {o:Nat} {fr:List Nat},rowOwn (fun x o fp=>ETy.own w T x b o fp) T.len xs o fr→fr=[]
 |[],_,_,h=>h
 |x::xs,o,fr,h=>by
  obtain⟨f1,f2,rfl,h1,h2⟩:=h
  rw[cellsOwn_flat (flat_own hf x) ((ETy.own_iff T x o f1).1 h1),rowOwn_flat hf h2]
  rfl
theorem rowOwn_of_ro {w:World}{R:Cls}{T:ETy}{b:Nat}(hf:T.flat=true):∀{xs:List T.den} {o:Nat},(∀i x,nth xs i=some x→ETy.ro w R T x b (o+i*T.len))→rowOwn (fun x o fp=>ETy.own w T x b o fp) T.len xs o []
 |[],_,_=>rfl
 |x::xs,o,h=>by
  refine⟨[],[],rfl,?_,rowOwn_of_ro (R:=R) hf (fun i y hy=> ?_)⟩
  ·have:=h 0 x rfl
   rw[Nat.zero_mul,Nat.add_zero]at this
   exact(ETy.own_iff T x o []).2 (cellsOwn_of_ro (flat_own hf x) ((ETy.ro_iff T x o).1 this))
  ·have:=h (i+1) y (by simpa using hy)
   rw[show o+T.len+i*T.len=o+(i+1)*T.len by rw[Nat.add_mul];omega]
   exact this
theorem flat_ro_any {w:World}{R R':Cls}{T:ETy}{x:T.den}{b o:Nat}(hf:T.flat=true)(h:ETy.ro w R T x b o):ETy.ro w R' T x b o:=by
 rw[ETy.ro_iff]at h⊢
 intro j g hg
 obtain⟨v,hc,hv⟩:=h j g hg
 refine⟨v,hc,?_⟩
 have:=flat_own hf x j g hg
 cases g<;>simp[Sg.t,LTy.flat]at this<;>exact hv
theorem cut_val {b oo cap n len:Nat}{lo hi:Int}(h0:0≤lo)(h1:lo≤hi)(h2:hi≤len)(h3:len≤cap):
 ((hi.toNat-lo.toNat=0∧cap=lo.toNat)∨cap≠lo.toNat∧(if cap=lo.toNat then some (⟨b,oo,none⟩:Addr)else(some (⟨b,oo,none⟩:Addr)).map (·.add (lo.toNat*n)))=some ⟨b,oo+lo.toNat*n,none⟩):=by
 by_cases hc:cap=lo.toNat
 ·exact .inl ⟨by omega,hc⟩
 ·exact .inr ⟨hc,by rw[if_neg hc];simp[Addr.add_lit]⟩
theorem rowOwn_take {α:Type}{Q:α→Nat→List Nat→Prop}{s:Nat}:∀{xs:List α} {o:Nat} {fp:List Nat} (k:Nat),rowOwn Q s xs o fp→∃f,f.Sublist fp∧rowOwn Q s (xs.take k) o f
 |[],_,fp,k,h=>⟨[],List.nil_sublist _,by simp[rowOwn]⟩
 |x::xs,o,fp,0,h=>⟨[],List.nil_sublist _,by simp[rowOwn]⟩
 |x::xs,o,fp,k+1,h=>by
  obtain⟨f1,f2,rfl,h1,h2⟩:=h
  obtain⟨f,hf,hr⟩:=rowOwn_take k h2
  exact⟨f1++f,List.Sublist.append (List.Sublist.refl _) hf,f1,f,rfl,h1,hr⟩
theorem rowOwn_drop {α:Type}{Q:α→Nat→List Nat→Prop}{s:Nat}:∀{xs:List α} {o:Nat} {fp:List Nat} (k:Nat),k≤xs.length→rowOwn Q s xs o fp→∃f,f.Sublist fp∧rowOwn Q s (xs.drop k) (o+k*s) f
 |xs,o,fp,0,_,h=>⟨fp,List.Sublist.refl _,by simpa using h⟩
 |[],_,_,k+1,hk,h=>by simp at hk
 |x::xs,o,fp,k+1,hk,h=>by
  obtain⟨f1,f2,rfl,h1,h2⟩:=h
  obtain⟨f,hf,hr⟩:=rowOwn_drop k (by simpa using hk) h2
  refine⟨f,hf.trans (List.sublist_append_right _ _),?_⟩
  rw[show o+(k+1)*s=o+s+k*s by rw[Nat.add_mul];omega]
  exact hr
theorem rowOwn_cut {α:Type}{Q:α→Nat→List Nat→Prop}{s:Nat}{xs:List α}{o:Nat}{fp:List Nat}{lo hi:Option Int}(h0:0≤lo.getD 0)(h1:lo.getD 0≤hi.getD xs.length)(h2:hi.getD xs.length≤xs.length)(h:rowOwn Q s xs o fp):∃f,f.Sublist fp∧rowOwn Q s (cutL xs lo hi) (o+(lo.getD 0).toNat*s) f:=by
 cases lo with
 |none=>
  have e:o+((none:Option Int).getD 0).toNat*s=o:=by simp
  rw[e]
  cases hi with
  |none=>exact⟨fp,List.Sublist.refl _,h⟩
  |some j=>exact rowOwn_take _ h
 |some i=>
  simp only[Option.getD_some]at h0 h1 h2⊢
  cases hi with
  |none=>simp only[Option.getD_none]at h1;exact rowOwn_drop _ (by omega) h
  |some j=>
   simp only[Option.getD_some]at h1 h2
   obtain⟨f,hf,hr⟩:=rowOwn_take j.toNat h
   obtain⟨g,hg,hq⟩:=rowOwn_drop i.toNat (by rw[List.length_take];omega) hr
   exact⟨g,hg.trans hf,hq⟩
theorem op_slice (hE:EnvOk P E)(h:Rel F c w R σ a){t:Nat}{x:Operand}{lo hi mx:Option Operand}(hop:o.op= .slice t x lo hi mx)(hd:opD E σ site o some=some d)(hok:dOk σ d=true)(hF:∀n z,look F.io n=some z→n<1000)(hs:1000≤site):Does P o a w (Post F σ a d):=by
 simp only[opD,hop]at hd
 split at hd
 ·rename_i i l lo' hi' mx' hi0 hx hlo hhi hmx
  have hT:=hE.ty t i hi0
  have hlo:=getI_rel h hlo
  have hhi:=getI_rel h hhi
  have hmx:=getI_rel h hmx
  have hv:=V1.one (eval_rel h hx)
  have hrun:∀v,(Instr.sliceAt t (a.eval x) (lo.map a.eval) (hi.map a.eval) (mx.map a.eval)).run P w= .ok v w→(execOp a.eval o).run P w= .ok (.value v) w:=by
   intro v hv
   simp[execOp,hop,hv]
  obtain⟨dd,hu,_,_,hstr,hsl,_⟩:=hT.und
  split at hd
  ·rename_i s hk
   have hu:P.underlying t=some .string:=by rw[hu,hstr hk]
   have hv:a.eval x= .string s:=hv
   unfold sliceStr at hd
   split at hd
   ·have hmx:mx.map a.eval=none:=by
     cases hm:mx.map a.eval with
     |none=>rfl
     |some y=>rw[hm]at hmx;exact hmx.elim
    obtain⟨h0,h1,h2,hd⟩:=rng_some hd
    injection hd with hd
    subst hd
    have hb:=bounds_run (P:=P) (w:=w) (g:=false) hlo hhi h0 h1 h2
    refine Does.run (hrun (.string (s.extract (lo'.getD 0).toNat (hi'.getD s.size).toNat)) ?_) (Post.pure h ⟨_,rfl,rfl⟩)
    rw[hv,hmx]
    simp[Instr.sliceAt,run_underlying hu,Instr.slice,hb]
   ·cases hd
  ·rename_i l' e hk
   have hu:P.underlying t=some (.slice e):=by rw[hu,hsl e hk]
   split at hd
   ·rename_i j hj
    have hj:=hE.ty e j hj
    unfold sliceE at hd
    split at hd
    ·split at hd
     ·rename_i hz
      injection hd with hd
      subst hd
      simp only[Bool.and_eq_true,Bool.or_eq_true]at hz
      obtain⟨⟨hz1,hz2⟩,hz3,hz4⟩:=hz
      obtain⟨ad,hvv⟩:=hv
      have:∃ad',(Instr.sliceAt t (.slice ad 0 0) (lo.map a.eval) (hi.map a.eval) (mx.map a.eval)).run P w= .ok (.slice ad' 0 0) w:=by
       rcases isZN_eq hz3 with rfl|rfl
       ·have hmx:mx.map a.eval=none:=by
         cases hm:mx.map a.eval with
         |none=>rfl
         |some y=>rw[hm]at hmx;exact hmx.elim
        have hg1:lo'.getD 0=0:=by rcases isZN_eq hz1 with rfl|rfl<;>rfl
        have hg2:hi'.getD ((0:Nat):Int)=0:=by rcases isZN_eq hz2 with rfl|rfl<;>rfl
        have hr:=sliceAt_run (P:=P) (w:=w) (t:=t) (ad:=ad) (len:=0) (cap:=0) hu hj hlo hhi (by omega) (by omega) (by omega)
        rw[hmx]
        have hg2':hi'.getD 0=0:=by simpa using hg2
        exact⟨ad,by simpa [hg1,hg2']using hr⟩
       ·have hh2:hi'=some 0:=by
         rcases isZN_eq hz2 with rfl|rfl
         ·rcases hz4 with hz4|hz4<;>cases hz4
         ·rfl
        subst hh2
        rcases isZN_eq hz1 with rfl|rfl
        ·cases hlv:lo.map a.eval with
         |some y=>rw[hlv]at hlo;exact hlo.elim
         |none=>
          cases hhv:hi.map a.eval with
          |none=>rw[hhv]at hhi;exact hhi.elim
          |some hv'=>
           cases hmv:mx.map a.eval with
           |none=>rw[hmv]at hmx;exact hmx.elim
           |some mv=>
            rw[hhv]at hhi
            rw[hmv]at hmx
            obtain⟨k1,rfl⟩:=hhi
            obtain⟨k2,rfl⟩:=hmx
            exact⟨_,by simp[Instr.sliceAt,run_underlying hu,Instr.slice,Instr.sliceBounds,Instr.sliceBound,asIntOf,run_sizeOf hj];rfl⟩
        ·exact slice0_run hu hj hlo hhi hmx
      obtain⟨ad',hr⟩:=this
      exact Does.run (hrun _ (by rw[hvv];exact hr)) (Post.pure h ⟨_,rfl,ad',rfl⟩)
     ·cases hd
    ·rename_i T xs
     split at hd
     ·rename_i hz
      injection hd with hd
      subst hd
      simp only[Bool.and_eq_true]at hz
      obtain⟨⟨hz1,hz2⟩,hz3⟩:=hz
      rw[isZ_eq hz1]at hlo
      rw[isZ_eq hz2]at hhi
      rw[isZ_eq hz3]at hmx
      have:∃ad len cap,a.eval x= .slice ad len cap:=by
       rcases hv with⟨_,ad,cap,hvv⟩|⟨b,oo,cap,hvv,_⟩
       ·exact⟨_,_,_,hvv⟩
       ·exact⟨_,_,_,hvv⟩
      obtain⟨ad,len,cap,hvv⟩:=this
      obtain⟨ad',hr⟩:=slice0_run (w:=w) (ad:=ad) (len:=len) (cap:=cap) hu hj hlo hhi hmx
      exact Does.run (hrun _ (by rw[hvv];exact hr)) (Post.pure h ⟨_,rfl,ad',rfl⟩)
     ·split at hd
      ·rename_i hTl
       have hTl:=Nat.eq_of_beq_eq_true hTl
       have hmx:mx.map a.eval=none:=by
        cases hm:mx.map a.eval with
        |none=>rfl
        |some y=>rw[hm]at hmx;exact hmx.elim
       obtain⟨h0,h1,h2,hd⟩:=rng_some hd
       injection hd with hd
       subst hd
       obtain⟨hcl,hcg⟩:=cutL_get h0 h1 h2
       rcases hv with⟨hnil,ad,cap,hvv⟩|⟨b,oo,cap,hvv,hb,hle,hr⟩
       ·subst hnil
        simp only[List.length_nil]at h1 h2 hcl
        have hr':=sliceAt_run (P:=P) (w:=w) (ad:=ad) (cap:=cap) hu hj hlo hhi h0 h1 (by omega)
        refine Does.run (hrun _ (by rw[hvv,hmx];exact hr')) (Post.pure h ⟨_,rfl, .inl ⟨?_,?_⟩⟩)
        ·exact List.eq_nil_of_length_eq_zero (by rw[hcl];omega)
        ·have hz:(hi'.getD ((0:Nat):Int)).toNat-(lo'.getD 0).toNat=0:=by omega
         exact⟨_,_,by rw[hz]⟩
       ·have hr':=sliceAt_run (P:=P) (w:=w) (ad:=some ⟨b,oo,none⟩) (cap:=cap) hu hj hlo hhi h0 h1 (by omega)
        rcases cut_val (b:=b) (oo:=oo) (n:=j.zero.length) h0 h1 h2 hle with⟨hz,hcc⟩|⟨hcc,hz⟩
        ·refine Does.run (hrun _ (by rw[hvv,hmx];exact hr')) (Post.pure h ⟨_,rfl, .inl ⟨?_,?_⟩⟩)
         ·exact List.eq_nil_of_length_eq_zero (by rw[hcl];exact hz)
         ·exact⟨_,_,by rw[hz]⟩
        ·rw[hz]at hr'
         refine Does.run (hrun _ (by rw[hvv,hmx];exact hr')) (Post.pure h ⟨_,rfl, .inr ⟨b,oo+(lo'.getD 0).toNat*j.zero.length,cap-(lo'.getD 0).toNat,?_,hb,?_,?_⟩⟩)
         ·rw[hcl]
         ·rw[hcl];omega
         ·intro q y hq
          have:=hr _ y (hcg q y hq)
          rw[hTl,Nat.add_mul,←Nat.add_assoc]at this
          rw[hTl]
          exact this
      ·cases hd
     ·cases hd
    ·rename_i m
     split at hd
     ·rename_i T dd' xs hm hmx0
      split at hd
      ·rename_i hTf
       have hTl:=Nat.eq_of_beq_eq_true hTf
       have hmx:mx.map a.eval=none:=by
        cases hmv:mx.map a.eval with
        |none=>rfl
        |some y=>rw[hmv]at hmx;exact hmx.elim
       obtain⟨h0,h1,h2,hd⟩:=rng_some hd
       injection hd with hd
       subst hd
       obtain⟨hcl,hcg⟩:=cutL_get h0 h1 h2
       have hv:=hv T dd' xs hm
       have he:=h.hp m _ hm
       simp only[dOk,Bool.and_eq_true]at hok
       obtain⟨⟨⟨hnew,_⟩,_⟩,_⟩:=hok
       have key:∃v z f,(Instr.sliceAt t (a.eval x) (lo.map a.eval) (hi.map a.eval) (mx.map a.eval)).run P w= .ok v w∧refAt w T (cutL xs lo' hi').length v z∧f.Nodup∧(∀b∈f,b∈c.fp m)∧
        (∀c':Cc,c'.at_ (site*64)=z→c'.fp (site*64)=f→∀H,(Ent.row T dd' (cutL xs lo' hi')).rel c' w R H (site*64)):=by
        cases hz:c.at_ m with
        |none=>
         rw[hz]at hv
         obtain⟨ad,hvv⟩:=hv
         have hnil:xs=[]:=by cases dd'<;>simp only[Ent.rel,hz]at he<;>exact he.1
         subst hnil
         simp only[List.length_nil]at h1 h2 hcl hvv
         have hr:=sliceAt_run (P:=P) (w:=w) (ad:=ad) (len:=0) (cap:=0) hu hj hlo hhi h0 h1 (by omega)
         have hz1:(hi'.getD ((0:Nat):Int)).toNat-(lo'.getD 0).toNat=0:=by omega
         have hnil2:cutL ([]:List T.den) lo' hi'=[]:=List.eq_nil_of_length_eq_zero (by rw[hcl];omega)
         refine⟨_,none,[],by rw[hvv,hmx];exact hr,⟨_,by rw[hz1,Nat.zero_sub]⟩,by simp,by simp,fun c' hc1 hc2 H=> ?_⟩
         cases dd'<;>simp only[Ent.rel,hc1]<;>exact⟨hnil2,hc2⟩
        |some z=>
         obtain⟨b,oo⟩:=z
         rw[hz]at hv
         obtain⟨cap,hvv,⟨hle,_⟩,hblk⟩:=hv
         have hr:=sliceAt_run (P:=P) (w:=w) (ad:=some ⟨b,oo,none⟩) (len:=xs.length) (cap:=cap) hu hj hlo hhi h0 h1 (by omega)
         have hnd:=h.nd m _ hm
         rcases cut_val (b:=b) (oo:=oo) (n:=j.zero.length) h0 h1 h2 hle with⟨hz1,hcc⟩|⟨hcc,hz1⟩
         ·have hnil2:cutL xs lo' hi'=[]:=List.eq_nil_of_length_eq_zero (by rw[hcl];omega)
          refine⟨_,none,[],by rw[hvv,hmx];exact hr,⟨_,by rw[hz1,hcc,Nat.sub_self]⟩,by simp,by simp,fun c' hc1 hc2 H=> ?_⟩
          cases dd'<;>simp only[Ent.rel,hc1]<;>exact⟨hnil2,hc2⟩
         ·rw[hz1]at hr
          have hbk:blk w b (oo+(lo'.getD 0).toNat*j.zero.length+(cap-(lo'.getD 0).toNat)*T.len):=by
           rw[←hTl,Nat.add_assoc,←Nat.add_mul,show(lo'.getD 0).toNat+(cap-(lo'.getD 0).toNat)=cap by omega]
           exact hblk
          have hbk2:blk w b (oo+(lo'.getD 0).toNat*j.zero.length+(cutL xs lo' hi').length*T.len):=hbk.mono (by
           have:(cutL xs lo' hi').length*T.len≤(cap-(lo'.getD 0).toNat)*T.len:=Nat.mul_le_mul_right _ (by rw[hcl];omega)
           omega)
          cases dd' with
          |true=>
           simp only[Ent.rel,hz]at he
           obtain⟨fr,h5,_,hrow⟩:=he
           obtain⟨f',hsub,hrow'⟩:=rowOwn_cut h0 h1 h2 hrow
           rw[h5]at hnd
           refine⟨_,some (b,oo+(lo'.getD 0).toNat*j.zero.length),b::f',by rw[hvv,hmx];exact hr,⟨cap-(lo'.getD 0).toNat,by rw[hcl],⟨by rw[hcl];omega,by omega⟩,hbk⟩,hnd.sublist (hsub.cons_cons b),by rw[h5];exact(hsub.cons_cons b).subset,fun c' hc1 hc2 H=> ?_⟩
           simp only[Ent.rel,hc1]
           exact⟨f',hc2,hbk2,by rw[←hTl];exact hrow'⟩
          |false=>
           simp only[Ent.rel,hz]at he
           have hro:=he.2.2
           have hfp:=he.1
           have hro2:∀i x,nth (cutL xs lo' hi') i=some x→ETy.ro w R T x b (oo+(lo'.getD 0).toNat*j.zero.length+i*T.len):=by
            intro q y hq
            have:=hro _ y (hcg q y hq)
            rw[hTl,Nat.add_mul,←Nat.add_assoc]at this
            rw[hTl]
            exact this
           refine⟨_,some (b,oo+(lo'.getD 0).toNat*j.zero.length),[b],by rw[hvv,hmx];exact hr,⟨cap-(lo'.getD 0).toNat,by rw[hcl],⟨by rw[hcl];omega,by omega⟩,hbk⟩,by simp,by rw[hfp];simp,fun c' hc1 hc2 H=> ?_⟩
           simp only[Ent.rel,hc1]
           exact⟨hc2,hbk2,hro2⟩
       obtain⟨v,z,f,hr,href,hfn,hff,hent⟩:=key
       have hlk:look (newH σ ⟨.v false [.ref (site*64)],[(site*64, .row T dd' (cutL xs lo' hi'))],[m],[]⟩) (site*64)=some (.row T dd' (cutL xs lo' hi')):=look_newH_add (by rw[look_cons,if_pos rfl])
       refine Does.run (hrun v hr) ⟨⟨fun n=>if n=site*64 then z else c.at_ n,fun n=>if n=site*64 then f else c.fp n⟩,R,?_,⟨_,rfl,?_⟩⟩
       ·refine Rel.step h hnew (by simp[look]) ?_ (fun _ _ _=>rfl) (fun _ h=>h) ?_ ?_ ?_ ?_ ?_ (Nat.le_refl _) (fun _ _ h=>h) rfl rfl rfl (fun n e new _ _ hs=>by simp[look]at hs)
        ·intro n hn _
         have:n≠site*64:=by rintro rfl;simp[look_cons]at hn
         simp[this]
        ·exact fun b hb=>⟨h.rl b hb, .inl hb⟩
        ·intro n e he' hn
         have:n=site*64:=by
          rcases hn with hn|hn
          ·exact look_one hn
          ·exact absurd rfl hn
         subst this
         rw[hlk]at he'
         cases he'
         refine⟨hent _ (by simp) (by simp) _,by simpa using hfn,?_⟩
         ·intro b hb
          simp only[if_true]at hb
          have:=h.nr m _ hm b (hff b hb)
          exact⟨this.1, .inr ⟨m,_,hm, .inl (by simp),hff b hb⟩⟩
        ·intro n e m' e' hne h3 h4 h5 h6
         have:∀k,(look [(site*64,Ent.row T dd' (cutL xs lo' hi'))] k≠none∨look ([]:Hp) k≠none)→k=site*64:=by
          intro k hk
          rcases hk with hk|hk
          ·exact look_one hk
          ·exact absurd rfl hk
         exact absurd ((this n h5).trans (this m' h6).symm) hne
        ·intro n hn
         have:=look_one hn
         cases hx:look F.io n with
         |none=>rfl
         |some z=>have:=hF n z hx;omega
        ·rintro l' v' _ ⟨n,hn,_⟩
         simp[look]at hn
       ·intro T' d' xs' hl'
        rw[hlk]at hl'
        cases hl'
        simpa using href
      ·cases hd
     ·cases hd
    ·cases hd
   ·cases hd
  ·cases hd
 ·cases hd
end
def Lf.fp (c:Cc):Lf→List Nat
 | .ref n=>c.fp n
 |_=>[]
def lsFp (c:Cc):List Lf→List Nat
 |[]=>[]
 |l::r=>l.fp c++lsFp c r
theorem lsFp_mem {c:Cc}{b:Nat}:∀{ls:List Lf},b∈lsFp c ls→∃n∈refsOf ls,b∈c.fp n
 |[],h=>by cases h
 |l::r,h=>by
  rcases List.mem_append.1 h with h|h
  ·cases l with
   |ref n=>exact⟨n,by simp[refsOf],h⟩
   |_=>cases h
  ·obtain⟨n,hn,hb⟩:=lsFp_mem h
   refine⟨n,?_,hb⟩
   cases l<;>simp[refsOf,hn]
theorem row_at {F:Fr}{c:Cc}{w:World}{R:Cls}{σ:St}{a:Act}{n:Nat}{T:ETy}{dd:Bool}{xs:List T.den}{v:Value}(h:Rel F c w R σ a)(hn:look σ.heap n=some (.row T dd xs))(hv:(Lf.ref n).rel c w R σ.heap v):
 (xs=[]∧c.fp n=[]∧∃ad,v= .slice ad 0 0)∨∃b o cp,c.at_ n=some (b,o)∧v= .slice (some ⟨b,o,none⟩) xs.length cp∧fits xs.length cp∧blk w b (o+cp*T.len)∧
  (match dd with|true=>∃fr,c.fp n=b::fr∧rowOwn (fun x o fp=>ETy.own w T x b o fp) T.len xs o fr|false=>c.fp n=[b]∧∀i x,nth xs i=some x→ETy.ro w R T x b (o+i*T.len)):=by
 have hv:=hv T dd xs hn
 have he:=h.hp n _ hn
 cases hz:c.at_ n with
 |none=>
  rw[hz]at hv
  left
  cases dd<;>simp only[Ent.rel,hz]at he<;>exact⟨he.1,he.2,hv⟩
 |some z=>
  obtain⟨b,o⟩:=z
  rw[hz]at hv
  obtain⟨cp,hvv,hle,hb⟩:=hv
  right
  refine⟨b,o,cp,rfl,hvv,hle,hb,?_⟩
  cases dd with
  |true=>
   simp only[Ent.rel,hz]at he
   obtain⟨fr,h1,_,h2⟩:=he
   exact⟨fr,h1,h2⟩
  |false=>
   simp only[Ent.rel,hz]at he
   exact⟨he.1,he.2.2⟩
section
variable {F:Fr} {c:Cc} {w:World} {R:Cls} {σ:St} {a:Act}
theorem nilAs_some {t:LTy}{x:t.den}(h:nilAs t=some x):∃T,t.sg x= .sl T []:=by
 cases t with
 |sl T=>
  have h:some ([]:List T.den)=some x:=h
  refine⟨T,?_⟩
  rw[←Option.some.inj h]
  rfl
 |_=>exact no h
theorem refAs_some {H:Hp}{n:Nat}{t:LTy}{x:t.den}(h:refAs H n t=some x):∃T dd,∃xs:List T.den,look H n=some (.row T dd xs)∧t.sg x= .sl T xs:=by
 cases t with
 |sl T=>
  have h:rowAs H n T=some x:=h
  unfold rowAs at h
  split at h
  ·rename_i T' dd xs hn
   obtain⟨e,hx⟩:=ETy.casts?_some h
   subst e
   subst hx
   exact⟨T',dd,xs,hn,rfl⟩
  ·exact no h
 |_=>exact no h
theorem frzR_own (h:Rel F c w R σ a){t:LTy}{l:Lf}{x:t.den}{v:Value}(hf:frzR σ.heap t l=some x)(ho:ownL σ.heap l=true)(hv:l.rel c w R σ.heap v):(t.sg x).own w v (l.fp c):=by
 cases l with
 |nil0=>
  obtain⟨T,hx⟩:=nilAs_some hf
  rw[hx]
  exact .inl ⟨rfl,rfl,hv⟩
 |ref n=>
  obtain⟨T,dd,xs,hn,hx⟩:=refAs_some hf
  rw[hx]
  simp only[ownL,hn]at ho
  subst ho
  rcases row_at h hn hv with⟨h1,h2,h3⟩|⟨b,o,cp,h0,h1,h2,h3,fr,h4,h5⟩
  ·exact .inl ⟨h1,h2,h3⟩
  ·exact .inr ⟨b,o,cp,fr,h1,h2,h3,h5,h4⟩
 |val g=>
  have hg:=LTy.get_sg hf
  simp only[ownL]at ho
  rw[hg]
  cases g<;>simp[Sg.t,LTy.flat]at ho<;>exact⟨hv,rfl⟩
 |pref=>simp[ownL]at ho
 |_=>exact no hf
theorem frzR_ro (h:Rel F c w R σ a){R':Cls}(hR:∀b,R b→R' b){t:LTy}{l:Lf}{x:t.den}{v:Value}(hfp:∀n e,l.says n=true→look σ.heap n=some e→∀b∈c.fp n,R' b)(hf:frzR σ.heap t l=some x)(hv:l.rel c w R σ.heap v):(t.sg x).ro w R' v:=by
 cases l with
 |nil0=>
  obtain⟨T,hx⟩:=nilAs_some hf
  rw[hx]
  obtain⟨ad,hv⟩:=hv
  exact .inl ⟨rfl,ad,0,hv⟩
 |ref n=>
  obtain⟨T,dd,xs,hn,hx⟩:=refAs_some hf
  rw[hx]
  rcases row_at h hn hv with⟨h1,h2,ad,h3⟩|⟨b,o,cp,h0,h1,h2,h3,h4⟩
  ·exact .inl ⟨h1,ad,0,h3⟩
  ·have hb:∀b∈c.fp n,R' b:=hfp n _ (by simp[Lf.says]) hn
   cases dd with
   |true=>
    obtain⟨fr,h4,h5⟩:=h4
    refine .inr ⟨b,o,cp,h1,hb b (by rw[h4];simp),h2.1,fun i y hy=> ?_⟩
    obtain⟨f,hff,hq⟩:=rowOwn_get h5 i y hy
    exact ETy.own_ro T y b _ f (fun b' hb'=>hb b' (by rw[h4];simp[hff b' hb'])) hq
   |false=>
    exact .inr ⟨b,o,cp,h1,hb b (by rw[h4.1];simp),h2.1,fun i y hy=>ETy.ro_same (fun _ _=>rfl) hR T y b _ rfl (h4.2 i y hy)⟩
 |pref n i j=>
  simp only[frzR]at hf
  split at hf
  ·rename_i g hg
   have hgs:=LTy.get_sg hf
   rw[hgs]
   unfold partOf at hg
   split at hg
   ·rename_i T' dd xs hn
    obtain⟨hdd,hi,hj,b,o,hz,hc⟩:=hv T' dd xs hn
    subst hdd
    have he:=h.hp n _ hn
    simp only[Ent.rel,hz]at he
    obtain⟨fr,h1,h2,h3⟩:=he
    obtain⟨f,hff,hq⟩:=rowOwn_get h3 i _ (rdAt (d:=T'.dflt) hi)
    obtain⟨v',f',h4,h5,h6⟩:=cellsOwn_get ((ETy.own_iff T' _ _ f).1 hq) j g hg
    rw[hc]at h4
    cases h4
    have hb:∀b∈c.fp n,R' b:=hfp n _ (by simp[Lf.says]) hn
    exact Sg.own_ro (fun b' hb'=>hb b' (by rw[h1];simp[hff b' (h6 b' hb')])) h5
   ·exact no hg
  ·exact no hf
 |val g=>
  have hg:=LTy.get_sg hf
  rw[hg]
  exact Sg.ro_same (fun _ _=>rfl) hR hv
 |_=>exact no hf
theorem frzRs_cons {H:Hp}{t u:LTy}{ts:ETy}{ls:List Lf}{x:(ETy.cons t (.cons u ts)).den}(hf:frzRs H (.cons t (.cons u ts)) ls=some x):∃l r,ls=l::r∧frzR H t l=some x.1∧frzRs H (.cons u ts) r=some x.2:=by
 cases ls with
 |nil=>exact no hf
 |cons l r=>
  refine⟨l,r,rfl,?_⟩
  have hf:(match frzR H t l,frzRs H (.cons u ts) r with|some x,some y=>some (x,y)|_,_=>none:Option (t.den×(ETy.cons u ts).den))=some x:=hf
  cases hy:frzR H t l with
  |none=>rw[hy]at hf;exact no hf
  |some y=>
   cases hz:frzRs H (.cons u ts) r with
   |none=>rw[hy,hz]at hf;exact no hf
   |some z=>
    rw[hy,hz]at hf
    have hf:=Option.some.inj hf
    rw[←hf]
    exact⟨rfl,rfl⟩
theorem frzRs_one {H:Hp}{t:LTy}{ls:List Lf}{x:(ETy.cons t .nil).den}(hf:frzRs H (.cons t .nil) ls=some x):∃l,ls=[l]∧frzR H t l=some x:=by
 match ls,hf with
 |[],hf=>exact no hf
 |[l],hf=>exact⟨l,rfl,hf⟩
 |_::_::_,hf=>exact no hf
theorem frzRs_nil {H:Hp}{ls:List Lf}{x:ETy.nil.den}(hf:frzRs H .nil ls=some x):ls=[]:=by
 cases ls with
 |nil=>rfl
 |cons _ _=>exact no hf
theorem frzRs_own (h:Rel F c w R σ a):∀(T:ETy) (ls:List Lf) (x:T.den) (vs:List Value),frzRs σ.heap T ls=some x→ownLs σ.heap ls=true→All2 (Lf.rel c w R σ.heap) ls vs→
 ∀{w':World} {b o:Nat},(∀b∈lsFp c ls,w'.heap[b]? =w.heap[b]?)→cellsAt w' b o vs→cellsOwn w' (T.sgs x) b o (lsFp c ls)
 | .nil,ls,x,vs,hf,ho,hr,w',b,o,hs,hc=>by
   have:=frzRs_nil hf
   subst this
   rfl
 | .cons t .nil,ls,x,vs,hf,ho,hr,w',b,o,hs,hc=>by
   obtain⟨l,rfl,hf⟩:=frzRs_one hf
   simp only[ownLs,Bool.and_true]at ho
   obtain⟨v,rfl,hv⟩:=one_of hr
   exact⟨l.fp c,[],by simp[lsFp],⟨v,by simpa using hc 0 v rfl,Sg.own_same (fun b hb=>hs b (by simp[lsFp,hb])) (frzR_own h hf ho hv)⟩,rfl⟩
 | .cons t (.cons u ts),ls,x,vs,hf,ho,hr,w',b,o,hs,hc=>by
   obtain⟨l,r,rfl,hy,hz⟩:=frzRs_cons hf
   cases vs with
   |nil=>exact hr.elim
   |cons v vs=>
    simp only[ownLs,Bool.and_eq_true]at ho
    refine⟨l.fp c,lsFp c r,rfl,⟨v,by simpa using hc 0 v rfl,Sg.own_same (fun b hb=>hs b (by simp[lsFp,hb])) (frzR_own h hy ho.1 hr.1)⟩,?_⟩
    exact frzRs_own h (.cons u ts) r x.2 vs hz ho.2 hr.2 (fun b hb=>hs b (by simp[lsFp,hb])) (fun j u hj=>by rw[show o+1+j=o+(j+1) by omega];exact hc (j+1) u (by simpa using hj))
theorem frzRs_vals (h:Rel F c w R σ a){R':Cls}(hR:∀b,R b→R' b):∀(T:ETy) (ls:List Lf) (x:T.den) (vs:List Value),(∀l∈ls,∀n e,l.says n=true→look σ.heap n=some e→∀b∈c.fp n,R' b)→frzRs σ.heap T ls=some x→All2 (Lf.rel c w R σ.heap) ls vs→
 All2 (Sg.ro w R') (T.sgs x) vs
 | .nil,ls,x,vs,hfp,hf,hr=>by
   have:=frzRs_nil hf
   subst this
   cases vs with
   |nil=>trivial
   |cons _ _=>exact hr.elim
 | .cons t .nil,ls,x,vs,hfp,hf,hr=>by
   obtain⟨l,rfl,hf⟩:=frzRs_one hf
   obtain⟨v,rfl,hv⟩:=one_of hr
   exact⟨frzR_ro h hR (hfp l (by simp)) hf hv,trivial⟩
 | .cons t (.cons u ts),ls,x,vs,hfp,hf,hr=>by
   obtain⟨l,r,rfl,hy,hz⟩:=frzRs_cons hf
   cases vs with
   |nil=>exact hr.elim
   |cons v vs=>exact⟨frzR_ro h hR (hfp l (by simp)) hy hr.1,frzRs_vals h hR (.cons u ts) r x.2 vs (fun l hl=>hfp l (by simp[hl])) hz hr.2⟩
theorem frzRs_len {H:Hp}:∀(T:ETy) (ls:List Lf) (x:T.den),frzRs H T ls=some x→ls.length=T.len
 | .nil,ls,x,hf=>by
   have:=frzRs_nil hf
   subst this
   rfl
 | .cons t .nil,ls,x,hf=>by
   obtain⟨l,rfl,hf⟩:=frzRs_one hf
   rfl
 | .cons t (.cons u ts),ls,x,hf=>by
   obtain⟨l,r,rfl,hy,hz⟩:=frzRs_cons hf
   have:=frzRs_len (.cons u ts) r x.2 hz
   simp[ETy.len]at this⊢
   exact this
end
theorem Rel.addOne {F:Fr}{c:Cc}{w w':World}{R R':Cls}{σ:St}{a:Act}{N:Nat}{e:Ent}{av:AV}{ds:List Nat}(h:Rel F c w R σ a)(hok:dOk σ ⟨av,[(N,e)],ds,[]⟩=true)(hF:∀n z,look F.io n=some z→n<1000)(hN:1000≤N)
 (z:Option (Nat×Nat)) (f:List Nat)
 (hsame:∀b,b<w.heap.size→(∀n e,look σ.heap n=some e→n∈ds→b∉c.fp n)→w'.heap[b]? =w.heap[b]?) (sz:w.heap.size≤w'.heap.size) (sh:∀b n,blk w b n→blk w' b n) (os:w'.os=w.os) (out:w'.output=w.output) (tape:w'.tape=w.tape)
 (hR:∀b,R b→R' b) (hR':∀b,R' b→R b∨∃m e,look σ.heap m=some e∧m∈ds∧b∈c.fp m)
 (hfn:f.Nodup) (hff:∀b∈f,¬R' b∧(w.heap.size≤b∨∃m e,look σ.heap m=some e∧m∈ds∧b∈c.fp m))
 (hent:∀c':Cc,(∀n,n≠N→c'.at_ n=c.at_ n∧c'.fp n=c.fp n)→c'.at_ N=z→c'.fp N=f→e.rel c' w' R' (newH σ ⟨av,[(N,e)],ds,[]⟩) N):
 ∃c',c'.at_ N=z∧(∀n,n≠N→c'.at_ n=c.at_ n∧c'.fp n=c.fp n)∧Rel F c' w' R' ⟨σ.tmps,newH σ ⟨av,[(N,e)],ds,[]⟩⟩ a∧look (newH σ ⟨av,[(N,e)],ds,[]⟩) N=some e:=by
 simp only[dOk,Bool.and_eq_true]at hok
 obtain⟨⟨⟨hnew,_⟩,_⟩,_⟩:=hok
 have hlk:look (newH σ ⟨av,[(N,e)],ds,[]⟩) N=some e:=look_newH_add (by rw[look_cons,if_pos rfl])
 have hc':∀n,n≠N→(if n=N then z else c.at_ n)=c.at_ n∧(if n=N then f else c.fp n)=c.fp n:=fun n hn=>by simp[hn]
 refine⟨⟨fun n=>if n=N then z else c.at_ n,fun n=>if n=N then f else c.fp n⟩,by simp,hc',?_,hlk⟩
 have hone:∀k,(look [(N,e)] k≠none∨look ([]:Hp) k≠none)→k=N:=by
  intro k hk
  rcases hk with hk|hk
  ·exact look_one hk
  ·exact absurd rfl hk
 refine Rel.step h hnew (by simp[look]) ?_ ?_ hR ?_ ?_ ?_ ?_ ?_ sz sh os out tape (fun n e new _ _ hs=>by simp[look]at hs)
 ·intro n hn _
  have:n≠N:=by rintro rfl;simp[look_cons]at hn
  exact hc' n this
 ·intro b hb hd
  exact hsame b hb (fun n e hn hm=>hd n e hn (.inl hm))
 ·intro b hb
  rcases hR' b hb with h1|⟨m,e',h1,h2,h3⟩
  ·exact⟨Nat.lt_of_lt_of_le (h.rl b h1) sz, .inl h1⟩
  ·exact⟨Nat.lt_of_lt_of_le (Ent.lt (h.hp m e' h1) b h3) sz, .inr (.inr ⟨m,e',h1, .inl h2,h3⟩)⟩
 ·intro n e' he' hn
  have:=hone n hn
  subst this
  rw[hlk]at he'
  cases he'
  refine⟨hent _ hc' (by simp) (by simp),by simpa using hfn,?_⟩
  ·intro b hb
   simp only[if_true]at hb
   obtain⟨h1,h2⟩:=hff b hb
   refine⟨h1,?_⟩
   rcases h2 with h2|⟨m,e',h2,h3,h4⟩
   ·exact .inl h2
   ·exact .inr ⟨m,e',h2, .inl h3,h4⟩
 ·intro n e1 m' e2 hne h3 h4 h5 h6
  exact absurd ((hone n h5).trans (hone m' h6).symm) hne
 ·intro n hn
  have:=look_one hn
  cases hx:look F.io n with
  |none=>rfl
  |some z=>have:=hF n z hx;omega
 ·rintro l' v' _ ⟨n,hn,_⟩
  simp[look]at hn
theorem cellsAt_new {w:World}{cs:Array Value}{e:Nat}:cellsAt (w.alloc (.cells cs e)) w.heap.size 0 cs.toList:=by
 intro j v hj
 rw[Array.getElem?_toList]at hj
 unfold World.cell?
 rw[show(⟨w.heap.size,0+j,none⟩:Addr).block=w.heap.size from rfl,alloc_new]
 simpa using hj
theorem blk_new {w:World}{cs:Array Value}{e n:Nat}(h:n≤cs.size):blk (w.alloc (.cells cs e)) w.heap.size n:=⟨cs,e,0,0,alloc_new,h, .inl (Nat.le_refl 0)⟩
section
variable {P:Program} {E:Env} {F:Fr} {c:Cc} {w:World} {R:Cls} {σ:St} {a:Act} {site:Nat} {o:Oper} {d:D}
theorem new_box (h:Rel F c w R σ a){N:Nat}{ls:List Lf}{cs:Array Value}{e:Nat}(hok:dOk σ ⟨.v false [.ptr N 0],[(N, .box ls)],[],[]⟩=true)(hF:∀n z,look F.io n=some z→n<1000)(hN:1000≤N)
 (hls:All2 (Lf.rel c w R σ.heap) ls cs.toList) (hsay:∀l∈ls,l.says N=false):Post F σ a ⟨.v false [.ptr N 0],[(N, .box ls)],[],[]⟩ (.pointer (some ⟨w.heap.size,0,none⟩)) (w.alloc (.cells cs e)):=by
 obtain⟨c',h1,h2,h3,h4⟩:=Rel.addOne (w':=w.alloc (.cells cs e)) (R':=R) h hok hF hN (some (w.heap.size,0)) [w.heap.size] (fun b hb _=>alloc_old hb) (by rw[alloc_size];omega) (blk_alloc rfl) rfl rfl rfl (fun _ h=>h) (fun b hb=> .inl hb) (by simp)
  (fun b hb=>by simp at hb;subst hb;exact⟨fun hr=>absurd (h.rl _ hr) (by omega), .inl (Nat.le_refl _)⟩)
  (fun c' hc hc1 hc2=>by
   refine⟨w.heap.size,cs,e,hc1,hc2,alloc_new,All2.mono_mem (fun l v hl hv=> ?_) hls⟩
   refine Lf.rel_keep (fun b hb=>alloc_old (h.rl b hb)) (fun _ h=>h) l v (fun n e' hs he=> ?_) hv
   have hne:n≠N:=by rintro rfl;rw[hsay l hl]at hs;cases hs
   rw[look_newH]at he
   have hn0:look [(N,Ent.box ls)] n=none:=by rw[look_cons,if_neg hne];rfl
   simp only[hn0]at he
   simp only[List.not_mem_nil,if_false]at he
   have he':look σ.heap n=some e':=by
    cases hl':look σ.heap n with
    |none=>rw[hl']at he;cases he
    |some x=>rw[hl']at he;simpa [look]using he
   obtain⟨k1,k2⟩:=hc n hne
   refine⟨he',k1,fun b o hb=>alloc_old ?_⟩
   have hent:=h.hp n _ he'
   have:b∈c.fp n:=by
    cases e' with
    |box ls'=>obtain⟨b',vs,e,h5,h6,_⟩:=hent;rw[hb]at h5;cases h5;rw[h6];simp
    |row T dd xs=>
     cases dd with
     |true=>simp only[Ent.rel,hb]at hent;obtain⟨fr,h6,_⟩:=hent;rw[h6];simp
     |false=>simp only[Ent.rel,hb]at hent;rw[hent.1];simp
   exact Ent.lt hent b this)
 exact⟨c',R,h3,_,rfl,fun ls' hl=>⟨_,h1,rfl⟩⟩
theorem op_alloc (hE:EnvOk P E)(h:Rel F c w R σ a){t:Nat}(hop:o.op= .alloc t)(hd:opD E σ site o some=some d)(hok:dOk σ d=true)(hF:∀n z,look F.io n=some z→n<1000)(hs:1000≤site):Does P o a w (Post F σ a d):=by
 simp only[opD,hop]at hd
 split at hd
 ·rename_i i hi
  injection hd with hd
  subst hd
  obtain⟨z,hz,_,hzr,_⟩:=run_zeroValue (w:=w) (hE.ty t i hi)
  refine Does.run (v:= .pointer (some ⟨w.heap.size,0,none⟩)) (w':=w.alloc (.cells z.cells t)) ?_ (new_box h hok hF (by omega) (hzr c w R σ.heap) (fun l hl=>(hE.ty t i hi).zs l hl _))
  simp[execOp,hop,Instr.alloc,hz,newVar,newRow]
 ·cases hd
theorem op_box (h:Rel F c w R σ a){t:Nat}{x:Operand}(hop:o.op= .box t x)(hd:opD E σ site o some=some d)(hok:dOk σ d=true)(hF:∀n z,look F.io n=some z→n<1000)(hs:1000≤site):Does P o a w (Post F σ a d):=by
 simp only[opD,hop]at hd
 split at hd
 ·rename_i g ls hx
  split at hd
  ·rename_i hal
   injection hd with hd
   subst hd
   obtain⟨h1,_⟩:=V1.cells' h (eval_rel h hx) hal
   have hfr:σ.fresh (site*64)=true:=by
    simp only[dOk,Bool.and_eq_true]at hok
    exact newOk_spec hok.1.1.1 (site*64) (.box ls) (by rw[look_cons,if_pos rfl])
   refine Does.run (v:= .pointer (some ⟨w.heap.size,0,none⟩)) (w':=w.alloc (.cells (a.eval x).cells t)) ?_ (new_box h hok hF (by omega) h1 (fun l hl=> ?_))
   ·simp[execOp,hop,Instr.box,newVar,newRow]
   ·rcases eval_says hx l hl with h2|h2
    ·exact(St.fresh_spec hfr).2 l h2
    ·exact h2 _
  ·cases hd
 ·cases hd
end
theorem sgZ_own {w:World}{g:Sg}{v:Value}(h:sgZ g v=true):g.own w v []:=by
 cases g<;>cases v<;>simp[sgZ]at h
 ·obtain⟨rfl,rfl⟩:=h;exact⟨rfl,rfl⟩
 ·subst h;exact⟨rfl,rfl⟩
 ·rename_i s s'
  have:s=s':=by cases s;cases s';simp at h;rw[h]
  subst this
  exact⟨rfl,rfl⟩
 ·rename_i T xs ad n m
  cases ad with
  |some ad=>simp[sgZ]at h
  |none=>
   cases n with
   |succ n=>simp[sgZ]at h
   |zero=>
    cases m with
    |succ m=>simp[sgZ]at h
    |zero=>
     cases xs with
     |cons _ _=>simp[sgZ]at h
     |nil=>exact .inl ⟨rfl,rfl,none,rfl⟩
theorem zeros_own {w:World}{b:Nat}:∀{gs:List Sg} {vs:List Value} {o:Nat},All2 (fun g v=>sgZ g v=true) gs vs→cellsAt w b o vs→cellsOwn w gs b o []
 |[],[],_,_,_=>rfl
 |[],_::_,_,h,_=>h.elim
 |_::_,[],_,h,_=>h.elim
 |g::gs,v::vs,o,h,hc=>⟨[],[],rfl,⟨v,by simpa using hc 0 v rfl,sgZ_own h.1⟩,zeros_own h.2 (fun j u hj=>by rw[show o+1+j=o+(j+1) by omega];exact hc (j+1) u (by simpa using hj))⟩
def rowCont (w:World)(R:Cls)(T:ETy)(b o:Nat)(xs:List T.den)(fr:List Nat):Bool→Prop
 |true=>rowOwn (fun x o fp=>ETy.own w T x b o fp) T.len xs o fr
 |false=>fr=[]∧∀i x,nth xs i=some x→ETy.ro w R T x b (o+i*T.len)
section
variable {P:Program} {E:Env} {F:Fr} {c:Cc} {w:World} {R:Cls} {σ:St} {a:Act} {site:Nat} {o:Oper} {d:D}
theorem new_rowF (h:Rel F c w R σ a){N:Nat}{T:ETy}{dd:Bool}{xs:List T.den}{ds:List Nat}(hok:dOk σ ⟨.v false [.ref N],[(N, .row T dd xs)],ds,[]⟩=true)(hF:∀n z,look F.io n=some z→n<1000)(hN:1000≤N)
 {w1:World} (hw:w1.heap=w.heap) (hos:w1.os=w.os) (hout:w1.output=w.output) (htape:w1.tape=w.tape) {arr:Array Value} {e cap:Nat} {fm:Nat×Nat} (hfm:fm.2≤fm.1∨arr.size≤fm.1) (hcap:xs.length≤cap) (harr:cap*T.len≤arr.size)
 {R':Cls} (hR:∀b,R b→R' b) (hR':∀b,R' b→R b∨∃m e,look σ.heap m=some e∧m∈ds∧b∈c.fp m) {fr:List Nat} (hfn:fr.Nodup) (hfr:∀b∈fr,¬R' b∧∃m e,look σ.heap m=some e∧m∈ds∧b∈c.fp m)
 (hcont:rowCont (w1.alloc (.cells arr e fm)) R' T w.heap.size 0 xs fr dd):
 Post F σ a ⟨.v false [.ref N],[(N, .row T dd xs)],ds,[]⟩ (.slice (some ⟨w.heap.size,0,none⟩) xs.length cap) (w1.alloc (.cells arr e fm)):=by
 have hold:∀b,b<w.heap.size→(w1.alloc (.cells arr e fm)).heap[b]? =w.heap[b]? :=fun b hb=>by rw[alloc_old (by rw[hw];exact hb),hw]
 have hnew:(w1.alloc (.cells arr e fm)).heap[w.heap.size]? =some (.cells arr e fm):=by rw[←hw];exact alloc_new
 have hlt:∀b∈fr,b<w.heap.size:=fun b hb=>by obtain⟨_,m,e,h1,_,h2⟩:=hfr b hb;exact Ent.lt (h.hp m e h1) b h2
 have hnr:¬R' w.heap.size:=by
  intro hr
  rcases hR' _ hr with hr|⟨m,e,h1,_,h2⟩
  ·exact absurd (h.rl _ hr) (by omega)
  ·exact absurd (Ent.lt (h.hp m e h1) _ h2) (by omega)
 by_cases hcap0:cap=0
 ·have hx0:xs=[]:=List.length_eq_zero_iff.1 (by omega)
  subst hx0
  have hfr0:fr=[]:=by
   cases dd with
   |true=>exact hcont
   |false=>exact hcont.1
  subst hfr0
  obtain⟨c',h1,h2,h3,h4⟩:=Rel.addOne (w':=w1.alloc (.cells arr e fm)) (R':=R') h hok hF hN none [] (fun b hb _=>hold b hb) (by rw[alloc_size,hw];omega) (blk_alloc hw) hos hout htape hR hR' List.nodup_nil (fun b hb=>by cases hb) (fun c' hc hc1 hc2=>by
   cases dd with
   |true=>simp only[Ent.rel,hc1,hc2];exact⟨trivial,trivial⟩
   |false=>simp only[Ent.rel,hc1,hc2];exact⟨trivial,trivial⟩)
  refine⟨c',R',h3,_,rfl,fun T' d' xs' hl=> ?_⟩
  rw[h4]at hl
  cases hl
  rw[h1]
  exact⟨_,by rw[hcap0];rfl⟩
 have hbk:blk (w1.alloc (.cells arr e fm)) w.heap.size (0+cap*T.len):=⟨arr,e,fm.1,fm.2,hnew,by omega,hfm⟩
 obtain⟨c',h1,h2,h3,h4⟩:=Rel.addOne (w':=w1.alloc (.cells arr e fm)) (R':=R') h hok hF hN (some (w.heap.size,0)) (w.heap.size::fr) (fun b hb _=>hold b hb) (by rw[alloc_size,hw];omega) (blk_alloc hw) hos hout htape hR hR'
  (by rw[List.nodup_cons];exact⟨fun hm=>absurd (hlt _ hm) (by omega),hfn⟩)
  (fun b hb=>by
   rcases List.mem_cons.1 hb with rfl|hb
   ·exact⟨hnr, .inl (Nat.le_refl _)⟩
   ·exact⟨(hfr b hb).1, .inr (hfr b hb).2⟩)
  (fun c' hc hc1 hc2=>by
   have hbk2:blk (w1.alloc (.cells arr e fm)) w.heap.size (0+xs.length*T.len):=hbk.mono (by
    have:=Nat.mul_le_mul_right T.len hcap
    omega)
   cases dd with
   |true=>
    simp only[Ent.rel,hc1]
    exact⟨fr,hc2,hbk2,hcont⟩
   |false=>
    simp only[Ent.rel,hc1]
    obtain⟨hfr0,hcont⟩:=hcont
    subst hfr0
    exact⟨hc2,hbk2,hcont⟩)
 refine⟨c',R',h3,_,rfl,fun T' d' xs' hl=> ?_⟩
 rw[h4]at hl
 cases hl
 rw[h1]
 exact⟨cap,rfl,⟨hcap,by omega⟩,hbk⟩
theorem new_row (h:Rel F c w R σ a){N:Nat}{T:ETy}{dd:Bool}{xs:List T.den}{ds:List Nat}(hok:dOk σ ⟨.v false [.ref N],[(N, .row T dd xs)],ds,[]⟩=true)(hF:∀n z,look F.io n=some z→n<1000)(hN:1000≤N)
 {w1:World} (hw:w1.heap=w.heap) (hos:w1.os=w.os) (hout:w1.output=w.output) (htape:w1.tape=w.tape) {arr:Array Value} {e cap:Nat} (hcap:xs.length≤cap) (harr:cap*T.len≤arr.size)
 {R':Cls} (hR:∀b,R b→R' b) (hR':∀b,R' b→R b∨∃m e,look σ.heap m=some e∧m∈ds∧b∈c.fp m) {fr:List Nat} (hfn:fr.Nodup) (hfr:∀b∈fr,¬R' b∧∃m e,look σ.heap m=some e∧m∈ds∧b∈c.fp m)
 (hcont:rowCont (w1.alloc (.cells arr e)) R' T w.heap.size 0 xs fr dd):
 Post F σ a ⟨.v false [.ref N],[(N, .row T dd xs)],ds,[]⟩ (.slice (some ⟨w.heap.size,0,none⟩) xs.length cap) (w1.alloc (.cells arr e)):=
 new_rowF (fm:=(0,0)) h hok hF hN hw hos hout htape (.inl (Nat.le_refl 0)) hcap harr hR hR' hfn hfr hcont
theorem rowOwn_replicate {w:World}{T:ETy}{b:Nat}{z:List Value}(hz:All2 (fun g v=>sgZ g v=true) (T.sgs T.dflt) z):∀{m o:Nat},(∀i,i<m→cellsAt w b (o+i*T.len) z)→rowOwn (fun x o fp=>ETy.own w T x b o fp) T.len (List.replicate m T.dflt) o []
 |0,o,_=>rfl
 |m+1,o,hc=>by
  refine⟨[],[],rfl,(ETy.own_iff T _ o []).2 (zeros_own hz (by have:=hc 0 (by omega);simpa using this)),?_⟩
  refine rowOwn_replicate hz (fun i hi=> ?_)
  have:=hc (i+1) (by omega)
  rw[show o+T.len+i*T.len=o+(i+1)*T.len by rw[Nat.add_mul];omega]
  exact this
theorem zeros_at {z:Array Value}{n b:Nat}{w1:World}{e:Nat}{m:Nat}(hz:0<z.size)(hn:n=m*z.size)(hb:b=w1.heap.size):∀i,i<m→cellsAt (w1.alloc (.cells ((Array.range n).map fun j=>z[j%z.size]!) e)) b (0+i*z.size) z.toList:=by
 intro i hi j v hj
 rw[Array.getElem?_toList]at hj
 have hjl:j<z.size:=(Array.getElem?_eq_some_iff.1 hj).1
 have hlt:i*z.size+j<n:=by
  have:(i+1)*z.size≤m*z.size:=Nat.mul_le_mul_right _ hi
  rw[Nat.add_mul]at this
  omega
 subst hb
 unfold World.cell?
 rw[show(⟨w1.heap.size,0+i*z.size+j,none⟩:Addr).block=w1.heap.size from rfl,alloc_new]
 have hmod:(i*z.size+j)%z.size=j:=by rw[Nat.add_comm,Nat.add_mul_mod_self_right];exact Nat.mod_eq_of_lt hjl
 simp only[Option.isSome_none,Bool.false_eq_true,if_false,Nat.zero_add]
 rw[Array.getElem?_map,Array.getElem?_range]
 simp only[hlt,if_true,Option.map_some,hmod]
 rw[getElem!_pos z j hjl]
 rw[Array.getElem?_eq_getElem hjl]at hj
 exact hj
theorem own_cont {w:World}{R:Cls}{T:ETy}{b o:Nat}{dd:Bool}{xs:List T.den}(h:rowOwn (fun x o fp=>ETy.own w T x b o fp) T.len xs o []):
 rowCont w R T b o xs [] dd:=by
 cases dd with
 |true=>exact h
 |false=>
  refine⟨rfl,fun i x hx=> ?_⟩
  obtain⟨f,hf,hq⟩:=rowOwn_get h i x hx
  exact ETy.own_ro T x b _ f (fun b' hb'=>absurd (hf b' hb') (by simp)) hq
theorem wrap_small {n:Int}(h0:0≤n)(h1:n<9223372036854775808):IntKind.i64.wrap n=n:=by rw[IntKind.wrap_i64];omega
theorem op_makeSlice (hE:EnvOk P E)(h:Rel F c w R σ a){t:Nat}{l cp:Operand}(hop:o.op= .makeSlice t l cp)(hd:opD E σ site o some=some d)(hok:dOk σ d=true)(hF:∀n z,look F.io n=some z→n<1000)(hs:1000≤site):Does P o a w (Post F σ a d):=by
 simp only[opD,hop]at hd
 split at hd
 ·rename_i i n m hi hl hc
  split at hd
  ·rename_i j hj
   split at hd
   ·rename_i hT
    simp only[Bool.and_eq_true]at hT
    obtain⟨hT,hby0⟩:=hT
    have hT:=Nat.eq_of_beq_eq_true hT
    have hby0:=Nat.le_of_ble_eq_true hby0
    by_cases hnm:n=m
    ·subst hnm
     by_cases h0:0≤n
     ·by_cases h1:n<(lim:Int)
      ·simp only[beq_self_eq_true,cond_true,h0,h1,decide_true]at hd
       injection hd with hd
       subst hd
       obtain⟨e,hu,hj⟩:=tyE_ok hE (t:=t) (j:=j) (by rw[hi];exact hj)
       obtain⟨z,hz,hzl,_,_,hzz⟩:=run_zeroValue (w:=w) hj
       obtain⟨info,z',hin,hsz,hby,h1l,_⟩:=hj.info
       have hTl:j.T.len≠0:=by rw[hT];omega
       obtain⟨_,hzz⟩:=hzz hTl
       have e1:a.eval l= .int .i64 n∨∃k,a.eval l= .int k n:=by
        right
        unfold intOf? at hl
        split at hl
        ·rename_i k m' he
         injection hl with hl
         subst hl
         exact⟨k,V1.one (eval_rel h he)⟩
        ·cases hl
       have e2:∃k,a.eval cp= .int k n:=by
        unfold intOf? at hc
        split at hc
        ·rename_i k m' he
         injection hc with hc
         subst hc
         exact⟨k,V1.one (eval_rel h he)⟩
        ·cases hc
       obtain⟨k1,e1⟩:∃k,a.eval l= .int k n:=by rcases e1 with e1|e1;exact⟨_,e1⟩;exact e1
       obtain⟨k2,e2⟩:=e2
       have hlim:(lim:Int)=68719476736:=rfl
       have hw:=wrap_small h0 (by omega:n<9223372036854775808)
       have hbn:¬((info.bytes:Int)*n>2^48):=by
        have h3:(info.bytes:Int)≤4096:=by rw[hby];omega
        have h4:(info.bytes:Int)*n≤4096*n:=Int.mul_le_mul_of_nonneg_right h3 h0
        show¬((281474976710656:Int)<_)
        omega
       have hr:∃arr:Array Value,(execOp a.eval o).run P w= .ok (.value (.slice (some ⟨w.heap.size,0,none⟩) n.toNat n.toNat)) (w.alloc (.cells arr e))∧n.toNat*j.T.len≤arr.size∧(∀i,i<n.toNat→cellsAt (w.alloc (.cells arr e)) w.heap.size (0+i*j.T.len) z.cells.toList):=by
        by_cases hn0:n=0
        ·subst hn0
         refine⟨#[],?_,by simp,fun i hi=>by simp at hi⟩
         simp[execOp,hop,e1,e2,Instr.makeSlice,run_underlying hu,typeInfo,hin,asInt,asIntOf,hw,sizeOf,newRow]
         congr 2
         exact Array.eq_empty_of_size_eq_zero (by simp)
        ·refine⟨(Array.range (n.toNat*info.size)).map fun j=>z.cells[j%z.cells.size]!,?_,?_,?_⟩
         ·have hsz0:¬(n.toNat*info.size=0):=by
           rw[hsz]
           have:0<n.toNat*j.zero.length:=Nat.mul_pos (by omega) (by omega)
           omega
          have hn1:¬n<0:=by omega
          have hbn':¬((281474976710656:Int)<(info.bytes:Int)*n):=hbn
          simp[execOp,hop,e1,e2,Instr.makeSlice,run_underlying hu,typeInfo,hin,asInt,asIntOf,hw,sizeOf,hn1,hbn',hsz0,hz,newRow]
         ·simp[hsz,hT]
         ·rw[hT,←hzl]
          exact zeros_at (by omega) (by rw[hsz,hzl]) rfl
       obtain⟨arr,hr,h5,h6⟩:=hr
       refine Does.run hr ?_
       have:=new_row (xs:=List.replicate n.toNat j.T.dflt) (T:=j.T) (dd:=E.deep (site*64)) (e:=e) (cap:=n.toNat) (R':=R) (fr:=[]) h hok hF (by omega) (w1:=w) rfl rfl rfl rfl (arr:=arr) (by simp) h5 (fun _ h=>h) (fun b hb=> .inl hb) (by simp) (by simp)
        (own_cont (dd:=E.deep (site*64)) (R:=R) (rowOwn_replicate hzz h6))
       simpa using this
      ·rw[beq_self_eq_true n,cond_true,decide_eq_true h0,cond_true,decide_eq_false h1,cond_false]at hd
       exact no hd
     ·rw[beq_self_eq_true n,cond_true,decide_eq_false h0,cond_false]at hd
      exact no hd
    ·rw[show(n==m)=false by simp[hnm],cond_false]at hd
     exact no hd
   ·cases hd
  ·cases hd
 ·cases hd
end
theorem fill_row {s:Nat}:∀{ps:List (Nat×Value)} {k:Nat} {cs:Array Value},natsFrom k (ps.map (·.1))=true→(∀p∈ps,p.2.cells.size=s)→(k+ps.length)*s≤cs.size→
 ∃cs',Instr.fill (fun i=>some (i*s,s)) cs ps=some cs'∧cs'.size=cs.size∧(∀q,q<k*s→cs'[q]? =cs[q]?)∧∀i p,ps[i]? =some p→∀j u,p.2.cells[j]? =some u→cs'[(k+i)*s+j]? =some u
 |[],k,cs,_,_,_=>⟨cs,rfl,rfl,fun _ _=>rfl,fun i p h=>by simp at h⟩
 |(m,v)::ps,k,cs,hn,hs,hl=>by
  simp only[List.map_cons,natsFrom,Bool.and_eq_true]at hn
  have hm:=Nat.eq_of_beq_eq_true hn.1
  subst hm
  have hv:v.cells.size=s:=hs (k,v) (by simp)
  have hl':(k+1+ps.length)*s≤cs.size:=by
   rw[show k+1+ps.length=k+((k,v)::ps).length by simp;omega]
   exact hl
  have hk:k*s+s≤cs.size:=by
   have:(k+1)*s≤(k+1+ps.length)*s:=Nat.mul_le_mul_right _ (by omega)
   rw[Nat.add_mul,Nat.one_mul]at this
   omega
  obtain⟨cs',h1,h2,h3,h4⟩:=fill_row (s:=s) (ps:=ps) (k:=k+1) (cs:=v.cells.zipIdx.foldl (fun cs (c,j)=>cs.setIfInBounds (k*s+j) c) cs) hn.2 (fun p hp=>hs p (by simp[hp])) (by
   rw[←Array.foldl_toList,Array.toList_zipIdx,fold_size]
   exact hl')
  have hsz:(v.cells.zipIdx.foldl (fun cs (c,j)=>cs.setIfInBounds (k*s+j) c) cs).size=cs.size:=by rw[←Array.foldl_toList,Array.toList_zipIdx,fold_size]
  have hget:∀q,(v.cells.zipIdx.foldl (fun cs (c,j)=>cs.setIfInBounds (k*s+j) c) cs)[q]? =if k*s≤q∧q<k*s+s then v.cells[q-k*s]? else cs[q]? :=by
   intro q
   rw[←Array.foldl_toList,Array.toList_zipIdx,fold_get? v.cells.toList cs (k*s) 0 q (by simp;omega)]
   simp only[Array.length_toList,hv,Nat.add_zero,Array.getElem?_toList]
   by_cases h1:q<k*s
   ·rw[if_pos h1,if_neg (by omega)]
   ·by_cases h2:q<k*s+s
    ·rw[if_neg h1,if_pos h2,if_pos ⟨by omega,h2⟩]
    ·rw[if_neg h1,if_neg h2,if_neg (by omega)]
  refine⟨cs',?_,h2.trans hsz,fun q hq=> ?_,fun i p hp j u hu=> ?_⟩
  ·simp only[Instr.fill]
   rw[if_neg (by simp;omega)]
   exact h1
  ·rw[h3 q (by rw[Nat.add_mul];omega),hget,if_neg (by omega)]
  ·have hj:j<p.2.cells.size:=(Array.getElem?_eq_some_iff.1 hu).1
   cases i with
   |zero=>
    simp at hp
    subst hp
    simp only at hj hu
    rw[Nat.add_zero,h3 _ (by rw[Nat.add_mul];omega),hget,if_pos (by omega)]
    rw[show k*s+j-k*s=j by omega]
    exact hu
   |succ i=>
    have:=h4 i p (by simpa using hp) j u hu
    rw[show k+(i+1)=k+1+i by omega]
    exact this
theorem refsOf_append :∀(l m:List Lf),refsOf (l++m)=refsOf l++refsOf m
 |[],m=>rfl
 |x::l,m=>by cases x<;>simp[refsOf,refsOf_append l m]
theorem lsFp_append {c:Cc}:∀(l m:List Lf),lsFp c (l++m)=lsFp c l++lsFp c m
 |[],m=>rfl
 |x::l,m=>by simp[lsFp,lsFp_append l m]
theorem ownLs_append {H:Hp}:∀(l m:List Lf),ownLs H (l++m)=(ownLs H l&&ownLs H m)
 |[],m=>by simp[ownLs]
 |x::l,m=>by simp[ownLs,ownLs_append l m,Bool.and_assoc]
theorem ownLs_live {H:Hp}{n:Nat}:∀{ls:List Lf},ownLs H ls=true→n∈refsOf ls→∃T,∃xs:List T.den,look H n=some (.row T true xs)
 |[],_,h=>by cases h
 |l::ls,ho,hn=>by
  simp only[ownLs,Bool.and_eq_true]at ho
  have tail:n∈refsOf ls→∃T,∃xs:List T.den,look H n=some (.row T true xs):=fun h=>ownLs_live ho.2 h
  cases l with
  |ref m=>
   simp only[refsOf,List.mem_cons]at hn
   rcases hn with rfl|hn
   ·have h1:=ho.1
    simp only[ownL]at h1
    split at h1
    ·rename_i T dd xs hl
     subst h1
     exact⟨T,xs,hl⟩
    ·cases h1
   ·exact tail hn
  |pref m i j=>exact absurd ho.1 (by simp[ownL])
  |_=>exact tail hn
section
variable {P:Program} {E:Env} {F:Fr} {c:Cc} {w:World} {R:Cls} {σ:St} {a:Act} {site:Nat} {o:Oper} {d:D}
theorem lsFp_nodup (h:Rel F c w R σ a):∀{ls:List Lf},ownLs σ.heap ls=true→(refsOf ls).Nodup→(lsFp c ls).Nodup
 |[],_,_=>List.nodup_nil
 |l::ls,ho,hn=>by
  have ho':=ho
  simp only[ownLs,Bool.and_eq_true]at ho'
  have tail:(refsOf ls).Nodup→(lsFp c ls).Nodup:=fun h'=>lsFp_nodup h ho'.2 h'
  cases l with
  |ref m=>
   simp only[refsOf,List.nodup_cons]at hn
   obtain⟨T,xs,hm⟩:=ownLs_live ho (n:=m) (by simp[refsOf])
   simp only[lsFp,Lf.fp]
   rw[List.nodup_append]
   refine⟨h.nd m _ hm,tail hn.2,fun b hb b' hb' e=> ?_⟩
   subst e
   obtain⟨k,hk,hbk⟩:=lsFp_mem hb'
   obtain⟨T',xs',hk'⟩:=ownLs_live ho'.2 hk
   have hne:m≠k:=by rintro rfl;exact hn.1 hk
   exact h.dj m _ k _ hne hm hk' b hb hbk
  |pref m i j=>exact absurd ho'.1 (by simp[ownL])
  |_=>simpa [lsFp,Lf.fp]using tail (by simpa [refsOf]using hn)
theorem lsFp_blocks (h:Rel F c w R σ a){ls:List Lf}(ho:ownLs σ.heap ls=true):∀b∈lsFp c ls,¬R b∧∃m e,look σ.heap m=some e∧m∈refsOf ls∧b∈c.fp m:=by
 intro b hb
 obtain⟨m,hm,hbm⟩:=lsFp_mem hb
 obtain⟨T,xs,hl⟩:=ownLs_live ho hm
 exact⟨(h.nr m _ hl b hbm).1,m,_,hl,hm,hbm⟩
theorem frzEach_cons {H:Hp}{T:ETy}{ls:List Lf}{r:List (List Lf)}{xs:List T.den}(hf:frzEach H T (ls::r)=some xs):∃x ys,xs=x::ys∧frzRs H T ls=some x∧frzEach H T r=some ys:=by
 unfold frzEach at hf
 split at hf
 ·rename_i x ys hx hy
  exact⟨x,ys,(Option.some.inj hf).symm,hx,hy⟩
 ·exact no hf
theorem frzEach_len {H:Hp}{T:ETy}:∀{r:List (List Lf)} {xs:List T.den},frzEach H T r=some xs→xs.length=r.length
 |[],xs,h=>by have:=Option.some.inj h;subst this;rfl
 |ls::r,xs,h=>by
  obtain⟨x,ys,rfl,_,hy⟩:=frzEach_cons h
  simp[frzEach_len hy]
theorem rows_own (h:Rel F c w R σ a){T:ETy}{w':World}{b:Nat}:∀{r:List (List Lf)} {xs:List T.den} {vs:List (List Value)} {o:Nat},frzEach σ.heap T r=some xs→ownLs σ.heap (flat2 r)=true→
 All2 (fun ls v=>All2 (Lf.rel c w R σ.heap) ls v) r vs→(∀b∈lsFp c (flat2 r),w'.heap[b]? =w.heap[b]?)→(∀i v,vs[i]? =some v→cellsAt w' b (o+i*T.len) v)→rowOwn (fun x o fp=>ETy.own w' T x b o fp) T.len xs o (lsFp c (flat2 r))
 |[],xs,[],o,hf,_,_,_,_=>by have:=Option.some.inj hf;subst this;rfl
 |[],_,_::_,_,_,_,hr,_,_=>hr.elim
 |_::_,_,[],_,_,_,hr,_,_=>hr.elim
 |ls::r,xs,v::vs,o,hf,ho,hr,hs,hc=>by
  obtain⟨x,ys,rfl,hx,hy⟩:=frzEach_cons hf
  simp only[flat2,ownLs_append,Bool.and_eq_true]at ho
  simp only[flat2,lsFp_append]at hs⊢
  refine⟨_,_,rfl,(ETy.own_iff T x o _).2 (frzRs_own h T ls x v hx ho.1 hr.1 (fun b hb=>hs b (by simp[hb])) (by have:=hc 0 v rfl;simpa using this)),?_⟩
  refine rows_own h hy ho.2 hr.2 (fun b hb=>hs b (by simp[hb])) (fun i u hi=> ?_)
  rw[show o+T.len+i*T.len=o+(i+1)*T.len by rw[Nat.add_mul];omega]
  exact hc (i+1) u (by simpa using hi)
theorem mem_flat2 {l:Lf}{ls:List Lf}:∀{r:List (List Lf)},ls∈r→l∈ls→l∈flat2 r
 |m::r,h,hl=>by
  rcases List.mem_cons.1 h with rfl|h
  ·exact List.mem_append.2 (.inl hl)
  ·exact List.mem_append.2 (.inr (mem_flat2 h hl))
theorem says_refs {H:Hp}{t:LTy}{l:Lf}{x:t.den}{n:Nat}(hf:frzR H t l=some x)(hs:l.says n=true):n∈refsOf [l]:=by
 cases l with
 |ref m=>simp only[Lf.says]at hs;simp[refsOf,Nat.eq_of_beq_eq_true hs]
 |pref m i j=>simp only[Lf.says]at hs;simp[refsOf,Nat.eq_of_beq_eq_true hs]
 |val g=>simp[Lf.says]at hs
 |nil0=>simp[Lf.says]at hs
 |_=>exact no hf
theorem says_refss {H:Hp}{n:Nat}:∀(T:ETy) (ls:List Lf) (x:T.den),frzRs H T ls=some x→∀l∈ls,l.says n=true→n∈refsOf ls
 | .nil,ls,x,hf=>by
   have:=frzRs_nil hf
   subst this
   intro l hl
   cases hl
 | .cons t .nil,ls,x,hf=>by
   obtain⟨l,rfl,hf⟩:=frzRs_one hf
   intro l' hl' hs
   simp at hl'
   subst hl'
   exact says_refs hf hs
 | .cons t (.cons u ts),ls,x,hf=>by
   obtain⟨l,r,rfl,hy,hz⟩:=frzRs_cons hf
   intro l' hl' hs
   rw[show l::r=[l]++r from rfl,refsOf_append]
   rcases List.mem_cons.1 hl' with rfl|hl'
   ·exact List.mem_append.2 (.inl (says_refs hy hs))
   ·exact List.mem_append.2 (.inr (says_refss (.cons u ts) r x.2 hz l' hl' hs))
theorem rows_ro (h:Rel F c w R σ a){R':Cls}(hR:∀b,R b→R' b){T:ETy}{w':World}{b:Nat}:∀{r:List (List Lf)} {xs:List T.den} {vs:List (List Value)} {o:Nat},frzEach σ.heap T r=some xs→
 (∀n e,n∈refsOf (flat2 r)→look σ.heap n=some e→∀b∈c.fp n,R' b)→All2 (fun ls v=>All2 (Lf.rel c w R σ.heap) ls v) r vs→(∀b,R' b→w'.heap[b]? =w.heap[b]?)→(∀i v,vs[i]? =some v→cellsAt w' b (o+i*T.len) v)→
 ∀i x,nth xs i=some x→ETy.ro w' R' T x b (o+i*T.len)
 |[],xs,[],o,hf,_,_,_,_=>by have:=Option.some.inj hf;subst this;intro i x hx;simp[nth]at hx
 |[],_,_::_,_,_,_,hr,_,_=>hr.elim
 |_::_,_,[],_,_,_,hr,_,_=>hr.elim
 |ls::r,xs,v::vs,o,hf,hfp,hr,hs,hc=>by
  obtain⟨x,ys,rfl,hx,hy⟩:=frzEach_cons hf
  intro i y hi
  cases i with
  |zero=>
   have hi':x=y:=by simpa [nth]using hi
   subst hi'
   have hv:=frzRs_vals h hR T ls x v (fun l hl n e hsy hn=>hfp n e (by simp only[flat2,refsOf_append];exact List.mem_append.2 (.inl (says_refss T ls x hx l hl hsy))) hn) hx hr.1
   rw[ETy.ro_iff]
   intro j g hg
   obtain⟨u,hu,hq⟩:=hv.get j g hg
   exact⟨u,by have:=hc 0 v rfl j u hu;simpa using this,Sg.ro_same hs (fun _ h=>h) hq⟩
  |succ i=>
   have:=rows_ro h hR hy (fun n e hn=>hfp n e (by simp only[flat2,refsOf_append];exact List.mem_append.2 (.inr hn))) hr.2 hs (o:=o+T.len) (fun i u hi=>by
    rw[show o+T.len+i*T.len=o+(i+1)*T.len by rw[Nat.add_mul];omega]
    exact hc (i+1) u (by simpa using hi)) i y (by simpa [nth]using hi)
   rw[show o+(i+1)*T.len=o+T.len+i*T.len by rw[Nat.add_mul];omega]
   exact this
end
section
variable {P:Program} {E:Env} {F:Fr} {c:Cc} {w:World} {R:Cls} {σ:St} {a:Act} {site:Nat} {o:Oper} {d:D}
theorem frz_cells (h:Rel F c w R σ a){T:ETy}{g:Bool}{ls:List Lf}{x:T.den}{v:Value}(hf:frzRs σ.heap T ls=some x)(hv:V1.rel c w R σ.heap g ls v):All2 (Lf.rel c w R σ.heap) ls v.cells.toList:=by
 refine V1.cells hv (fun hg=> ?_)
 subst hg
 obtain⟨l,rfl,hl⟩:=hv
 have hq:=frzRs_vals h (R':=fun _=>True) (fun _ _=>trivial) T [l] x [v] (fun _ _ _ _ _ _ _ _=>trivial) hf ⟨hl,trivial⟩
 match hT:T.sgs x,hq with
 |[g],hq=>exact Sg.ro_one hq.1
theorem parts_cells (h:Rel F c w R σ a){T:ETy}:∀{as:List (Bool×List Lf)} {vs:List Value} {xs:List T.den},frzEach σ.heap T (lss as)=some xs→All2 (fun p v=>V1.rel c w R σ.heap p.1 p.2 v) as vs→
 All2 (fun ls v=>All2 (Lf.rel c w R σ.heap) ls v) (lss as) (vs.map fun v=>v.cells.toList)∧∀v∈vs,v.cells.size=T.len
 |[],[],xs,_,_=>⟨trivial,fun v h=>by cases h⟩
 |[],_::_,_,_,hr=>hr.elim
 |_::_,[],_,_,hr=>hr.elim
 |(g,ls)::as,v::vs,xs,hf,hr=>by
  obtain⟨x,ys,rfl,hx,hy⟩:=frzEach_cons hf
  obtain⟨h1,h2⟩:=parts_cells h hy hr.2
  have h3:=frz_cells h hx hr.1
  refine⟨⟨h3,h1⟩,fun u hu=> ?_⟩
  rcases List.mem_cons.1 hu with rfl|hu
  ·have:=h3.length
   rw[frzRs_len T ls x hx]at this
   simpa using this.symm
  ·exact h2 u hu
theorem op_buildSlice (hE:EnvOk P E)(h:Rel F c w R σ a){t n:Nat}{parts:Array (Nat×Operand)}(hop:o.op= .buildSlice t n parts)(hd:opD E σ site o some=some d)(hok:dOk σ d=true)(hF:∀n z,look F.io n=some z→n<1000)(hs:1000≤site):Does P o a w (Post F σ a d):=by
 simp only[opD,hop]at hd
 split at hd
 ·rename_i i as hi has
  split at hd
  ·rename_i j hj
   split at hd
   ·rename_i xs hfz hc
    split at hd
    ·rename_i hg
     simp only[Bool.and_eq_true]at hc hg
     obtain⟨⟨⟨⟨hnf,hna⟩,hTl⟩,hlim⟩,hagg⟩:=hc
     have hna:=Nat.eq_of_beq_eq_true hna
     have hTl:=Nat.eq_of_beq_eq_true hTl
     have hlim:=Nat.le_of_ble_eq_true hlim
     obtain⟨hown,hnd⟩:=hg
     have hnd:=(nodup_iff _).1 hnd
     obtain⟨e,hu,hj⟩:=tyE_ok hE (t:=t) (j:=j) (by rw[hi];exact hj)
     obtain⟨z,hz,hzl,_,_,_⟩:=run_zeroValue (w:=w) hj
     obtain⟨info,z',hin,hsz,hby,h1l,_⟩:=hj.info
     have har:=avs_rel h has
     rw[List.map_map]at har
     obtain⟨hcl,hcs⟩:=parts_cells h hfz har
     have hxl:=frzEach_len hfz
     have hlen:parts.toList.length=n:=by
      have:=har.length
      rw[List.length_map]at this
      omega
     have hxn:xs.length=n:=by
      have:=hcl.length
      simp at this
      rw[hxl,this]
      simpa using hlen
     have hsT:info.size=j.T.len:=by omega
     obtain⟨cs',h1,h2,h3,h4⟩:=fill_row (s:=j.T.len) (ps:=parts.toList.map fun p=>(p.1,a.eval p.2)) (k:=0) (cs:=(Array.range (n*j.T.len)).map fun q=>(if n*j.T.len=0 then(#[]:Array Value)else z.cells)[q%(if n*j.T.len=0 then(#[]:Array Value)else z.cells).size]!)
      (by rw[List.map_map];exact hnf) (fun p hp=>by
       obtain⟨q,hq,rfl⟩:=List.mem_map.1 hp
       exact hcs _ (List.mem_map.2 ⟨q,hq,rfl⟩)) (by simp[hlen])
     have hrun:(execOp a.eval o).run P w= .ok (.value (.slice (some ⟨w.heap.size,0,none⟩) xs.length n)) (w.alloc (.cells cs' e)):=by
      have hbig:¬(n*j.T.len>2^24):=by
       show¬(16777216<n*j.T.len)
       omega
      rw[hxn]
      have e0:∀f:Nat→Value,Array.map f (Array.range 0)= #[]:=fun f=>Array.eq_empty_of_size_eq_zero (by simp)
      by_cases h0:n*j.T.len=0
      ·simp only[h0,if_true,e0]at h1
       simp[execOp,hop,Instr.buildSlice,run_underlying hu,sizeOf,typeInfo,hin,hsT,h0,newRow,e0]
       rw[h1]
       rfl
      ·simp only[h0,if_false]at h1
       simp[execOp,hop,Instr.buildSlice,run_underlying hu,sizeOf,typeInfo,hin,hsT,h0,hz,newRow]
       rw[if_neg hbig]
       rw[h1]
       rfl
     have hat:∀i v,((parts.toList.map (a.eval∘Prod.snd)).map fun v=>v.cells.toList)[i]? =some v→cellsAt (w.alloc (.cells cs' e)) w.heap.size (0+i*j.T.len) v:=by
      intro i v hv q u hq
      rw[List.map_map,List.getElem?_map]at hv
      obtain⟨p,hp,rfl⟩:=Option.map_eq_some_iff.1 hv
      have:=h4 i (p.1,a.eval p.2) (by rw[List.getElem?_map,hp];rfl) q u (by simpa using hq)
      unfold World.cell?
      rw[show(⟨w.heap.size,0+i*j.T.len+q,none⟩:Addr).block=w.heap.size from rfl,alloc_new]
      simpa using this
     have hsize:n*j.T.len≤cs'.size:=by rw[h2];simp
     refine Does.run hrun ?_
     cases n with
     |zero=>
      injection hd with hd
      subst hd
      have hx0:xs.length=0:=hxn
      refine⟨c,R,?_,⟨_,rfl,⟨_,by rw[hx0]⟩⟩⟩
      refine Rel.step h rfl (fun n e he=>by simp[look]at he) (fun _ _ _=>⟨rfl,rfl⟩) (fun b hb _=>alloc_old hb) (fun _ h=>h) (fun b hb=>⟨by rw[alloc_size];exact Nat.lt_succ_of_lt (h.rl b hb), .inl hb⟩)
       (fun n e _ hn=>by simp[look]at hn) (fun n e m e' _ _ _ hn=>by simp[look]at hn) (fun n hn=>by simp[look]at hn) (fun l v _ hn=>by obtain⟨n,hn,_⟩:=hn;simp[look]at hn) (by rw[alloc_size];omega) (blk_alloc rfl) rfl rfl rfl (fun n e new _ _ hs=>by simp[look]at hs)
     |succ n'=>
     injection hd with hd
     subst hd
     cases hdp:E.deep (site*64)with
     |true=>
      have hown':ownLs σ.heap (flat2 (lss as))=true:=by simpa [hdp]using hown
      have hb:=lsFp_blocks h hown'
      refine new_row (R':=R) (fr:=lsFp c (flat2 (lss as))) h (by rw[hdp]at hok;exact hok) hF (by omega) rfl rfl rfl rfl (by omega) hsize (fun _ h=>h) (fun b hb=> .inl hb) (lsFp_nodup h hown' hnd)
       (fun b hbm=>⟨(hb b hbm).1,by obtain⟨_,m,e,h5,h6,h7⟩:=hb b hbm;exact⟨m,e,h5,h6,h7⟩⟩) ?_
      exact rows_own h hfz hown' hcl (fun b hbm=>alloc_old (by obtain⟨_,m,e,h5,h6,h7⟩:=hb b hbm;exact Ent.lt (h.hp m e h5) b h7)) hat
     |false=>
      refine new_row (R':=fun b=>R b∨∃m e,look σ.heap m=some e∧m∈refsOf (flat2 (lss as))∧b∈c.fp m) (fr:=[]) h (by rw[hdp]at hok;exact hok) hF (by omega) rfl rfl rfl rfl (by omega) hsize (fun _ h=> .inl h) (fun b hb=>hb) List.nodup_nil
       (fun b hbm=>by cases hbm) ⟨rfl,?_⟩
      exact rows_ro h (fun _ h=> .inl h) hfz (fun n e hn hl b hb=> .inr ⟨n,e,hl,hn,hb⟩) hcl (fun b hb=>alloc_old (by
       rcases hb with hb|⟨m,e,h5,h6,h7⟩
       ·exact h.rl b hb
       ·exact Ent.lt (h.hp m e h5) b h7)) hat
    ·cases hd
   ·cases hd
  ·cases hd
 ·cases hd
end
theorem setC_other {b:Nat}:∀(vs:List Value) (o:Nat) {w:World} {k:Nat},k≠b→(w.setCells b o vs).heap[k]? =w.heap[k]?
 |[],_,_,_,_=>rfl
 |v::vs,o,w,k,h=>by
  rw[World.setCells,setC_other vs (o+1) h]
  simp[World.setCell,Array.getElem?_modify,Ne.symm h]
theorem setC_same {b:Nat}:∀(vs:List Value) (o:Nat) {w:World} {cs:Array Value} {e:Nat} {fm:Nat×Nat},w.heap[b]? =some (.cells cs e fm)→∃cs',(w.setCells b o vs).heap[b]? =some (.cells cs' e fm)∧cs'.size=cs.size
 |[],_,w,cs,e,fm,h=>⟨cs,h,rfl⟩
 |v::vs,o,w,cs,e,fm,h=>by
  have h1:(w.setCell ⟨b,o,none⟩ v).heap[b]? =some (.cells (cs.setIfInBounds o v) e fm):=by simp[World.setCell,Array.getElem?_modify,h]
  obtain⟨cs',h2,h3⟩:=setC_same vs (o+1) h1
  exact⟨cs',h2,h3.trans (by simp)⟩
theorem setC_size {b:Nat}:∀(vs:List Value) (o:Nat) (w:World),(w.setCells b o vs).heap.size=w.heap.size
 |[],_,_=>rfl
 |v::vs,o,w=>by
  rw[World.setCells,setC_size vs (o+1)]
  simp[World.setCell]
theorem setC_rest {b:Nat}:∀(vs:List Value) (o:Nat) (w:World),(w.setCells b o vs).os=w.os∧(w.setCells b o vs).output=w.output∧(w.setCells b o vs).tape=w.tape
 |[],_,_=>⟨rfl,rfl,rfl⟩
 |v::vs,o,w=>by
  rw[World.setCells]
  exact setC_rest vs (o+1) _
theorem blk.setC {w:World}{b n o:Nat}{vs:List Value}(h:blk w b n):blk (w.setCells b o vs) b n:=by
 obtain⟨cs,e,lo,hi,h,hn,hf⟩:=h
 obtain⟨cs',h1,h2⟩:=setC_same vs o h
 exact⟨cs',e,lo,hi,h1,by omega,by omega⟩
theorem blk.setC' {w:World}{b b' n o:Nat}{vs:List Value}(h:blk w b n):blk (w.setCells b' o vs) b n:=by
 by_cases e:b=b'
 ·subst e;exact h.setC
 ·exact h.same (setC_other vs o e)
theorem cells_setC_in {w:World}{b n o:Nat}{vs:List Value}(h:blk w b n)(ho:o+vs.length≤n):cellsAt (w.setCells b o vs) b o vs:=by
 intro j v hj
 have hl:=(List.getElem?_eq_some_iff.1 hj).1
 rw[World.cell?_setCells_in b vs o w (fun j hj=>h.cell (by omega)) j hl]
 rw[List.getElem?_eq_getElem hl]at hj
 exact hj
theorem cells_setC_out {w:World}{b o o':Nat}{vs us:List Value}(h:cellsAt w b o vs)(ho:o+vs.length≤o'∨o'+us.length≤o):cellsAt (w.setCells b o' us) b o vs:=by
 intro j v hj
 have hl:=(List.getElem?_eq_some_iff.1 hj).1
 rw[World.cell?_setCells_out b us o' w ⟨b,o+j,none⟩ (fun _ _=>by
  show o+j<o'∨o'+us.length≤o+j
  omega)]
 exact h j v hj
theorem cellsAt_append {w:World}{b o:Nat}{vs us:List Value}:cellsAt w b o (vs++us)↔cellsAt w b o vs∧cellsAt w b (o+vs.length) us:=by
 constructor
 ·intro h
  refine⟨fun j v hj=>h j v (by rw[List.getElem?_append_left (List.getElem?_eq_some_iff.1 hj).1];exact hj),fun j v hj=> ?_⟩
  have:=h (vs.length+j) v (by rw[List.getElem?_append_right (by omega),Nat.add_sub_cancel_left];exact hj)
  rw[show o+vs.length+j=o+(vs.length+j) by omega]
  exact this
 ·rintro⟨h1,h2⟩ j v hj
  by_cases hl:j<vs.length
  ·exact h1 j v (by rwa [List.getElem?_append_left hl]at hj)
  ·rw[List.getElem?_append_right (by omega)]at hj
   have:=h2 (j-vs.length) v hj
   rwa [show o+vs.length+(j-vs.length)=o+j by omega]at this
theorem cellsAt_same {w w':World}{b o:Nat}{vs:List Value}(hs:w'.heap[b]? =w.heap[b]?)(h:cellsAt w b o vs):cellsAt w' b o vs:=fun j v hj=>(cell_same hs).trans (h j v hj)
def ownVals (w:World):List Sg→List Value→List Nat→Prop
 |[],[],fp=>fp=[]
 |g::gs,v::vs,fp=>∃f1 f2,fp=f1++f2∧g.own w v f1∧ownVals w gs vs f2
 |_,_,_=>False
theorem ownVals_length {w:World}:∀{gs:List Sg} {vs:List Value} {fp:List Nat},ownVals w gs vs fp→gs.length=vs.length
 |[],[],_,_=>rfl
 |g::gs,v::vs,fp,h=>by obtain⟨_,_,_,_,h⟩:=h;simp[ownVals_length h]
 |[],_::_,_,h=>h.elim
 |_::_,[],_,h=>h.elim
theorem ownVals_append {w:World}:∀{gs hs:List Sg} {vs us:List Value} {f g:List Nat},ownVals w gs vs f→ownVals w hs us g→ownVals w (gs++hs) (vs++us) (f++g)
 |[],hs,[],us,f,g,h,h'=>by cases h;exact h'
 |x::gs,hs,v::vs,us,f,g,h,h'=>by
  obtain⟨f1,f2,rfl,h1,h2⟩:=h
  exact⟨f1,f2++g,by simp,h1,ownVals_append h2 h'⟩
 |[],_,_::_,_,_,_,h,_=>h.elim
 |_::_,_,[],_,_,_,h,_=>h.elim
theorem ownVals_same {w w':World}:∀{gs:List Sg} {vs:List Value} {f:List Nat},(∀b∈f,w'.heap[b]? =w.heap[b]?)→ownVals w gs vs f→ownVals w' gs vs f
 |[],[],f,_,h=>h
 |x::gs,v::vs,f,hs,h=>by
  obtain⟨f1,f2,rfl,h1,h2⟩:=h
  exact⟨f1,f2,rfl,Sg.own_same (fun b hb=>hs b (by simp[hb])) h1,ownVals_same (fun b hb=>hs b (by simp[hb])) h2⟩
 |[],_::_,_,_,h=>h.elim
 |_::_,[],_,_,h=>h.elim
theorem ownVals_ro {w:World}{R:Cls}:∀{gs:List Sg} {vs:List Value} {f:List Nat},(∀b∈f,R b)→ownVals w gs vs f→All2 (Sg.ro w R) gs vs
 |[],[],_,_,_=>trivial
 |x::gs,v::vs,f,hR,h=>by
  obtain⟨f1,f2,rfl,h1,h2⟩:=h
  exact⟨Sg.own_ro (fun b hb=>hR b (by simp[hb])) h1,ownVals_ro (fun b hb=>hR b (by simp[hb])) h2⟩
 |[],_::_,_,_,h=>h.elim
 |_::_,[],_,_,h=>h.elim
theorem ownVals_one {w:World}{gs:List Sg}{vs:List Value}{f:List Nat}(h:ownVals w gs vs f):∀u∈vs,u.oneCell'=true:=by
 have h:=ownVals_ro (R:=fun _=>True) (fun _ _=>trivial) h
 intro u hu
 obtain⟨j,hj⟩:=List.getElem?_of_mem hu
 have hl:=(List.getElem?_eq_some_iff.1 hj).1
 have hl':j<gs.length:=by rw[h.length];exact hl
 obtain⟨v,hv,hq⟩:=h.get j _ (List.getElem?_eq_getElem hl')
 rw[hj]at hv
 cases hv
 exact Sg.ro_one hq
theorem cellsOwn_vals {w:World}{b:Nat}:∀{gs:List Sg} {o:Nat} {fp:List Nat},cellsOwn w gs b o fp→∃vs,cellsAt w b o vs∧ownVals w gs vs fp
 |[],o,fp,h=>⟨[],fun j v h=>by simp at h,h⟩
 |g::gs,o,fp,h=>by
  obtain⟨f1,f2,rfl,⟨v,hc,hv⟩,h2⟩:=h
  obtain⟨vs,h3,h4⟩:=cellsOwn_vals h2
  refine⟨v::vs,fun j u hj=> ?_,f1,f2,rfl,hv,h4⟩
  cases j with
  |zero=>simp at hj;subst hj;exact hc
  |succ j=>have:=h3 j u (by simpa using hj);rwa [show o+1+j=o+(j+1) by omega]at this
theorem vals_cellsOwn {w:World}{b:Nat}:∀{gs:List Sg} {vs:List Value} {o:Nat} {fp:List Nat},cellsAt w b o vs→ownVals w gs vs fp→cellsOwn w gs b o fp
 |[],[],o,fp,_,h=>h
 |g::gs,v::vs,o,fp,hc,h=>by
  obtain⟨f1,f2,rfl,h1,h2⟩:=h
  refine⟨f1,f2,rfl,⟨v,by simpa using hc 0 v rfl,h1⟩,vals_cellsOwn (fun j u hj=> ?_) h2⟩
  rw[show o+1+j=o+(j+1) by omega]
  exact hc (j+1) u (by simpa using hj)
 |[],_::_,_,_,_,h=>h.elim
 |_::_,[],_,_,_,h=>h.elim
def flatG (T:ETy):List T.den→List Sg
 |[]=>[]
 |x::xs=>T.sgs x++flatG T xs
theorem flatG_append (T:ETy):∀(xs ys:List T.den),flatG T (xs++ys)=flatG T xs++flatG T ys
 |[],_=>rfl
 |x::xs,ys=>by simp[flatG,flatG_append T xs ys]
theorem flatG_length (T:ETy):∀(xs:List T.den),(flatG T xs).length=xs.length*T.len
 |[]=>by simp[flatG]
 |x::xs=>by simp[flatG,flatG_length T xs,ETy.sgs_length,Nat.add_mul];omega
theorem cellsOwn_append {w:World}{b:Nat}:∀{gs hs:List Sg} {o:Nat} {fp:List Nat},cellsOwn w (gs++hs) b o fp↔∃f g,fp=f++g∧cellsOwn w gs b o f∧cellsOwn w hs b (o+gs.length) g
 |[],hs,o,fp=>by
  constructor
  ·intro h;exact⟨[],fp,rfl,rfl,by simpa using h⟩
  ·rintro⟨f,g,rfl,rfl,h⟩;simpa using h
 |x::gs,hs,o,fp=>by
  constructor
  ·rintro⟨f1,f2,rfl,h1,h2⟩
   obtain⟨f,g,rfl,h3,h4⟩:=cellsOwn_append.1 h2
   exact⟨f1++f,g,by simp,⟨f1,f,rfl,h1,h3⟩,by rw[List.length_cons,show o+(gs.length+1)=o+1+gs.length by omega];exact h4⟩
  ·rintro⟨f,g,rfl,⟨f1,f2,rfl,h1,h3⟩,h4⟩
   refine⟨f1,f2++g,by simp,h1,cellsOwn_append.2 ⟨f2,g,rfl,h3,?_⟩⟩
   rw[List.length_cons,show o+(gs.length+1)=o+1+gs.length by omega]at h4
   exact h4
theorem rowOwn_cells {w:World}{T:ETy}{b:Nat}:∀{xs:List T.den} {o:Nat} {fr:List Nat},rowOwn (fun x o fp=>ETy.own w T x b o fp) T.len xs o fr↔cellsOwn w (flatG T xs) b o fr
 |[],o,fr=>Iff.rfl
 |x::xs,o,fr=>by
  unfold flatG
  rw[cellsOwn_append,ETy.sgs_length]
  constructor
  ·rintro⟨f,g,rfl,h1,h2⟩
   exact⟨f,g,rfl,(ETy.own_iff T x o f).1 h1,rowOwn_cells.1 h2⟩
  ·rintro⟨f,g,rfl,h1,h2⟩
   exact⟨f,g,rfl,(ETy.own_iff T x o f).2 h1,rowOwn_cells.2 h2⟩
theorem cellsRo_append {w:World}{R:Cls}{b o:Nat}{gs hs:List Sg}:cellsRo w R (gs++hs) b o↔cellsRo w R gs b o∧cellsRo w R hs b (o+gs.length):=by
 constructor
 ·intro h
  refine⟨fun j g hj=>h j g (by rw[List.getElem?_append_left (List.getElem?_eq_some_iff.1 hj).1];exact hj),fun j g hj=> ?_⟩
  have:=h (gs.length+j) g (by rw[List.getElem?_append_right (by omega),Nat.add_sub_cancel_left];exact hj)
  rw[show o+gs.length+j=o+(gs.length+j) by omega]
  exact this
 ·rintro⟨h1,h2⟩ j g hj
  by_cases hl:j<gs.length
  ·exact h1 j g (by rwa [List.getElem?_append_left hl]at hj)
  ·rw[List.getElem?_append_right (by omega)]at hj
   have:=h2 (j-gs.length) g hj
   rwa [show o+gs.length+(j-gs.length)=o+j by omega]at this
theorem rowRo_cells {w:World}{R:Cls}{T:ETy}{b:Nat}:∀{xs:List T.den} {o:Nat},(∀i x,nth xs i=some x→ETy.ro w R T x b (o+i*T.len))↔cellsRo w R (flatG T xs) b o
 |[],o=>⟨fun _ j g h=>by simp[flatG]at h,fun _ i x h=>by simp[nth]at h⟩
 |x::xs,o=>by
  unfold flatG
  rw[cellsRo_append,ETy.sgs_length]
  constructor
  ·intro h
   refine⟨(ETy.ro_iff T x o).1 (by have:=h 0 x rfl;simpa using this),rowRo_cells.1 fun i y hy=> ?_⟩
   have:=h (i+1) y (by simpa [nth]using hy)
   rwa [show o+(i+1)*T.len=o+T.len+i*T.len by rw[Nat.add_mul];omega]at this
  ·rintro⟨h1,h2⟩ i y hy
   cases i with
   |zero=>
    have:x=y:=by simpa [nth]using hy
    subst this
    simpa using (ETy.ro_iff T x o).2 h1
   |succ i=>
    have:=rowRo_cells.2 h2 i y (by simpa [nth]using hy)
    rwa [show o+T.len+i*T.len=o+(i+1)*T.len by rw[Nat.add_mul];omega]at this
theorem cellsRo_vals {w:World}{R:Cls}{b:Nat}:∀{gs:List Sg} {o:Nat},cellsRo w R gs b o→∃vs,cellsAt w b o vs∧All2 (Sg.ro w R) gs vs
 |[],o,_=>⟨[],fun j v h=>by simp at h,trivial⟩
 |g::gs,o,h=>by
  obtain⟨v,hc,hv⟩:=h 0 g rfl
  obtain⟨vs,h1,h2⟩:=cellsRo_vals (gs:=gs) (o:=o+1) fun j g hj=>by
   rw[show o+1+j=o+(j+1) by omega]
   exact h (j+1) g (by simpa using hj)
  refine⟨v::vs,fun j u hj=> ?_,hv,h2⟩
  cases j with
  |zero=>simp at hj;subst hj;exact hc
  |succ j=>have:=h1 j u (by simpa using hj);rwa [show o+1+j=o+(j+1) by omega]at this
theorem vals_cellsRo {w:World}{R:Cls}{b o:Nat}{gs:List Sg}{vs:List Value}(hc:cellsAt w b o vs)(h:All2 (Sg.ro w R) gs vs):cellsRo w R gs b o:=by
 intro j g hj
 obtain⟨v,hv,hq⟩:=h.get j g hj
 exact⟨v,hc j v hv,hq⟩
def contV (w:World)(R:Cls)(gs:List Sg)(vs:List Value)(fr:List Nat):Bool→Prop
 |true=>ownVals w gs vs fr
 |false=>fr=[]∧All2 (Sg.ro w R) gs vs
theorem contV_length {w:World}{R:Cls}{gs:List Sg}{vs:List Value}{fr:List Nat}{dd:Bool}(h:contV w R gs vs fr dd):gs.length=vs.length:=by
 cases dd with
 |true=>exact ownVals_length h
 |false=>exact h.2.length
theorem contV_one {w:World}{R:Cls}{gs:List Sg}{vs:List Value}{fr:List Nat}{dd:Bool}(h:contV w R gs vs fr dd):∀u∈vs,u.oneCell'=true:=by
 cases dd with
 |true=>exact ownVals_one h
 |false=>
  intro u hu
  obtain⟨j,hj⟩:=List.getElem?_of_mem hu
  have hl:=(List.getElem?_eq_some_iff.1 hj).1
  have hl':j<gs.length:=by rw[h.2.length];exact hl
  obtain⟨v,hv,hq⟩:=h.2.get j _ (List.getElem?_eq_getElem hl')
  rw[hj]at hv
  cases hv
  exact Sg.ro_one hq
theorem contV_same {w w':World}{R R':Cls}{gs:List Sg}{vs:List Value}{fr:List Nat}{dd:Bool}(hs:∀b∈fr,w'.heap[b]? =w.heap[b]?)(hR:∀b,R b→w'.heap[b]? =w.heap[b]?)(hR':∀b,R b→R' b)(h:contV w R gs vs fr dd):contV w' R' gs vs fr dd:=by
 cases dd with
 |true=>exact ownVals_same hs h
 |false=>exact⟨h.1,h.2.mono fun g v hq=>Sg.ro_same hR hR' hq⟩
theorem contV_append {w:World}{R:Cls}{gs hs:List Sg}{vs us:List Value}{f g:List Nat}{dd:Bool}(h:contV w R gs vs f dd)(h':contV w R hs us g dd):contV w R (gs++hs) (vs++us) (f++g) dd:=by
 cases dd with
 |true=>exact ownVals_append h h'
 |false=>exact⟨by rw[h.1,h'.1];rfl,h.2.append h'.2⟩
theorem contV_nil {w:World}{R:Cls}{dd:Bool}:contV w R [] [] [] dd:=by
 cases dd with
 |true=>exact rfl
 |false=>exact⟨rfl,trivial⟩
theorem contV_down {w:World}{R:Cls}{gs:List Sg}{vs:List Value}{fr:List Nat}(dd:Bool)(hR:∀b∈fr,R b)(h:contV w R gs vs fr dd):contV w R gs vs [] false:=by
 cases dd with
 |true=>exact⟨rfl,ownVals_ro hR h⟩
 |false=>exact⟨rfl,h.2⟩
theorem rowCont_vals {w:World}{R:Cls}{T:ETy}{b o:Nat}{xs:List T.den}{fr:List Nat}{dd:Bool}(h:rowCont w R T b o xs fr dd):∃vs,cellsAt w b o vs∧contV w R (flatG T xs) vs fr dd:=by
 cases dd with
 |true=>exact cellsOwn_vals (rowOwn_cells.1 h)
 |false=>
  obtain⟨vs,h1,h2⟩:=cellsRo_vals (rowRo_cells.1 h.2)
  exact⟨vs,h1,h.1,h2⟩
theorem vals_rowCont {w:World}{R:Cls}{T:ETy}{b o:Nat}{xs:List T.den}{vs:List Value}{fr:List Nat}{dd:Bool}(hc:cellsAt w b o vs)(h:contV w R (flatG T xs) vs fr dd):rowCont w R T b o xs fr dd:=by
 cases dd with
 |true=>exact rowOwn_cells.2 (vals_cellsOwn hc h)
 |false=>exact⟨h.1,rowRo_cells.2 (vals_cellsRo hc h.2)⟩
theorem flatG_flat {T:ETy}(hf:T.flat=true):∀{xs:List T.den} (q:Nat) (g:Sg),(flatG T xs)[q]? =some g→g.t.flat=true
 |[],q,g,h=>by simp[flatG]at h
 |x::xs,q,g,h=>by
  unfold flatG at h
  by_cases hl:q<(T.sgs x).length
  ·rw[List.getElem?_append_left hl]at h
   exact flat_own hf x q g h
  ·rw[List.getElem?_append_right (by omega)]at h
   exact flatG_flat hf _ g h
theorem ownVals_flat {w w':World}{R:Cls}:∀{gs:List Sg} {vs:List Value},(∀(q:Nat) (g:Sg),gs[q]? =some g→g.t.flat=true)→All2 (Sg.ro w R) gs vs→ownVals w' gs vs []
 |[],[],_,_=>rfl
 |g::gs,v::vs,hf,h=>by
  refine⟨[],[],rfl,?_,ownVals_flat (fun q g hq=>hf (q+1) g (by simpa using hq)) h.2⟩
  have:=hf 0 g rfl
  have h1:=h.1
  cases g<;>simp[Sg.t,LTy.flat]at this<;>exact⟨h1,rfl⟩
 |[],_::_,_,h=>h.elim
 |_::_,[],_,h=>h.elim
theorem contV_flat {w w':World}{R R':Cls}{T:ETy}(hf:T.flat=true){xs:List T.den}{vs:List Value}{fr:List Nat}{dd:Bool}(d':Bool)(h:contV w R (flatG T xs) vs fr dd):contV w' R' (flatG T xs) vs [] d':=by
 have h1:All2 (Sg.ro w (fun _=>True)) (flatG T xs) vs:=by
  cases dd with
  |true=>exact ownVals_ro (fun _ _=>trivial) h
  |false=>exact h.2.mono fun g v hq=>Sg.ro_same (fun _ _=>rfl) (fun _ _=>trivial) hq
 have h2:ownVals w' (flatG T xs) vs []:=ownVals_flat (flatG_flat hf) h1
 cases d' with
 |true=>exact h2
 |false=>exact⟨rfl,ownVals_ro (fun b hb=>by cases hb) h2⟩
theorem growBy_le {n:Nat}:∀(k c:Nat),c<n→256≤c→Builtin.growBy n k c≤2*n
 |0,c,h,_=>by simp[Builtin.growBy];omega
 |k+1,c,h,h2=>by
  unfold Builtin.growBy
  rw[if_neg (by omega)]
  by_cases h3:c+(c+768)/4<n
  ·exact growBy_le k _ h3 (by omega)
  ·cases k with
   |zero=>simp[Builtin.growBy];omega
   |succ k=>
    unfold Builtin.growBy
    rw[if_pos (by omega)]
    omega
theorem nextcap_le {n c:Nat}(h:c<n):Builtin.nextslicecap n c≤2*n:=by
 unfold Builtin.nextslicecap
 split
 ·omega
 ·split
  ·omega
  ·exact growBy_le 4 c h (by omega)
theorem append_stay {P:Program}{w:World}{t tx ty e:TypeId}{i:TypeInfo}(ht:P.underlying t=some (.slice e))(hi:P.info? e=some i){ad:Option Addr}{sLen sCap:Nat}{x:Value}{news:List Value}(hs:Src P i.size tx x 0 news w)(hroom:sLen≤sCap):
 (Builtin.append_ #[t,tx] ty #[.slice ad sLen sCap,x]).run P w= .ok (.slice ad sLen sCap) w:=by
 have h0:news=[]:=List.length_eq_zero_iff.1 (by rw[hs.newsLen,Nat.zero_mul])
 subst h0
 have hst:∀a:Addr,(storeCells a [] 0).run P w= .ok () w:=fun a=>rfl
 rcases hs.kind with⟨e',hk⟩|hk<;>cases ad<;>simp[Builtin.append_,run_underlying ht,run_underlying hk,sizeOf,typeInfo,hi,hs.len,hroom,hs.cells,hst]
section
variable {P:Program} {E:Env} {F:Fr} {c:Cc} {w:World} {R:Cls} {σ:St} {a:Act} {site:Nat} {o:Oper} {d:D}
theorem row_cont (h:Rel F c w R σ a){n:Nat}{T:ETy}{dd:Bool}{xs:List T.den}{v:Value}(hn:look σ.heap n=some (.row T dd xs))(hv:(Lf.ref n).rel c w R σ.heap v):
 (xs=[]∧c.fp n=[]∧∃ad,v= .slice ad 0 0)∨∃b o cp fr vs,c.at_ n=some (b,o)∧v= .slice (some ⟨b,o,none⟩) xs.length cp∧fits xs.length cp∧blk w b (o+cp*T.len)∧c.fp n=b::fr∧cellsAt w b o vs∧contV w R (flatG T xs) vs fr dd:=by
 rcases row_at h hn hv with h1|⟨b,o,cp,h1,h2,h3,h4,h5⟩
 ·exact .inl h1
 ·right
  cases dd with
  |true=>
   obtain⟨fr,h6,h7⟩:=h5
   obtain⟨vs,h8,h9⟩:=rowCont_vals (dd:=true) (R:=R) h7
   exact⟨b,o,cp,fr,vs,h1,h2,h3,h4,h6,h8,h9⟩
  |false=>
   obtain⟨vs,h8,h9⟩:=rowCont_vals (dd:=false) (R:=R) (fr:=[]) ⟨rfl,h5.2⟩
   exact⟨b,o,cp,[],vs,h1,h2,h3,h4,h5.1,h8,h9⟩
theorem append_post (h:Rel F c w R σ a){N:Nat}{T:ETy}{dd:Bool}{xs ys:List T.den}{ds:List Nat}{t tx ty e:TypeId}{info:TypeInfo}{z:Value}
 (hok:dOk σ ⟨.v false [.ref N],[(N, .row T dd (xs++ys))],ds,[]⟩=true) (hF:∀n z,look F.io n=some z→n<1000) (hN:1000≤N)
 (ht:P.underlying t=some (.slice e)) (hi:P.info? e=some info) (hz:info.zero=some z) (hsz:info.size=T.len) (hzc:z.cells.size=T.len) (hby:info.bytes≤1024)
 {sv xv:Value} {vs us:List Value} {fr:List Nat} {R':Cls} (hsrc:Src P info.size tx xv ys.length us w)
 (hdst:(xs=[]∧vs=[]∧∃ad,sv= .slice ad 0 0)∨∃n en b o cp,look σ.heap n=some en∧n∈ds∧b∈c.fp n∧b∉fr∧¬R' b∧sv= .slice (some ⟨b,o,none⟩) xs.length cp∧fits xs.length cp∧blk w b (o+cp*T.len)∧cellsAt w b o vs)
 (hR:∀b,R b→R' b) (hR':∀b,R' b→R b∨∃m e,look σ.heap m=some e∧m∈ds∧b∈c.fp m) (hfn:fr.Nodup) (hfr:∀b∈fr,¬R' b∧∃m e,look σ.heap m=some e∧m∈ds∧b∈c.fp m)
 (hcont:contV w R' (flatG T (xs++ys)) (vs++us) fr dd) (hvl:vs.length=xs.length*T.len) (hlim:xs.length+ys.length<lim):
 ∃v w',(Builtin.append_ #[t,tx] ty #[sv,xv]).run P w= .ok v w'∧Post F σ a ⟨.v false [.ref N],[(N, .row T dd (xs++ys))],ds,[]⟩ v w':=by
 have hul:us.length=ys.length*T.len:=by rw[hsrc.newsLen,hsz]
 have hRlt:∀b,R' b→b<w.heap.size:=by
  intro b hb
  rcases hR' b hb with hb|⟨m,e,h1,_,h2⟩
  ·exact h.rl b hb
  ·exact Ent.lt (h.hp m e h1) b h2
 have hflt:∀b∈fr,b<w.heap.size:=by
  intro b hb
  obtain⟨_,m,e,h1,_,h2⟩:=hfr b hb
  exact Ent.lt (h.hp m e h1) b h2
 have hlim':(lim:Nat)=68719476736:=rfl
 have grow:∀(base:Option Addr) (cp:Nat),sv= .slice base xs.length cp→cp<xs.length+ys.length→(Builtin.firstCells info.size xs.length (.slice base xs.length cp)).run P w.drew= .ok vs.toArray w.drew→
  ∃v w',(Builtin.append_ #[t,tx] ty #[sv,xv]).run P w= .ok v w'∧Post F σ a ⟨.v false [.ref N],[(N, .row T dd (xs++ys))],ds,[]⟩ v w':=by
  intro base cp hsv hcp hold
  subst hsv
  have hb:Builtin.nextslicecap (xs.length+ys.length) cp*info.bytes≤281474976710656:=by
   have h1:=nextcap_le hcp
   have h2:Builtin.nextslicecap (xs.length+ys.length) cp*info.bytes≤(2*(xs.length+ys.length))*1024:=Nat.mul_le_mul h1 hby
   omega
  have hrun:=run_append_grow_src (P:=P) w t tx ty e info z ht hi hz base xs.length cp vs hold xv ys.length us hsrc hcp (by omega) hb
  refine⟨_,_,hrun,?_⟩
  have hge:=grownCap_ge w (xs.length+ys.length) cp e
  have hnew:=new_row (xs:=xs++ys) (T:=T) (dd:=dd) (ds:=ds) (e:=e) (w1:=w.drew) (cap:=grownCap w (xs.length+ys.length) cp e)
   (arr:=(vs++us).toArray++Builtin.zeroCells z.cells (grownCap w (xs.length+ys.length) cp e-(xs.length+ys.length))) h hok hF hN rfl rfl rfl rfl (by rw[List.length_append];exact hge) (by
    simp only[Array.size_append,List.size_toArray,List.length_append,Builtin.zeroCells,Array.size_map,Array.size_range]
    rw[hvl,hul,hzc,←Nat.add_mul,←Nat.add_mul]
    exact Nat.mul_le_mul_right _ (by omega)) hR hR' hfn hfr (by
    refine vals_rowCont (vs:=vs++us) ?_ (contV_same (fun b hb=> ?_) (fun b hb=> ?_) (fun _ h=>h) hcont)
    ·intro j v hj
     unfold World.cell?
     rw[show(⟨w.heap.size,0+j,none⟩:Addr).block=w.drew.heap.size from rfl,alloc_new]
     have hl:=(List.getElem?_eq_some_iff.1 hj).1
     simp only[Option.isSome_none,Bool.false_eq_true,if_false,Nat.zero_add]
     rw[Array.getElem?_append_left (by simpa using hl)]
     simpa using hj
    ·exact alloc_old (w:=w.drew) (hflt b hb)
    ·exact alloc_old (w:=w.drew) (hRlt b hb))
  rw[List.length_append]at hnew
  exact hnew
 rcases hdst with⟨hx0,hv0,ad,hsv⟩|⟨n,en,b,o',cp,hn,hnd,hbn,hbf,hbR,hsv,hcp,hbk,hat⟩
 ·subst hx0;subst hv0
  by_cases hy:ys.length=0
  ·have hy0:ys=[]:=List.length_eq_zero_iff.1 hy
   subst hy0
   have hrun:=append_stay (P:=P) (w:=w) (t:=t) (tx:=tx) (ty:=ty) (ad:=ad) (sLen:=0) (sCap:=0) (x:=xv) ht hi hsrc (Nat.le_refl 0)
   have hu0:us=[]:=List.length_eq_zero_iff.1 (by rw[hul];simp)
   subst hu0
   have hfr0:fr=[]:=by
    cases dd with
    |true=>exact hcont
    |false=>exact hcont.1
   subst hfr0
   refine⟨_,_,by rw[hsv];exact hrun,?_⟩
   obtain⟨c',h1,h2,h3,h4⟩:=Rel.addOne (w':=w) (R':=R') h hok hF hN none [] (fun _ _ _=>rfl) (Nat.le_refl _) (fun _ _ h=>h) rfl rfl rfl hR hR' List.nodup_nil (fun b hb=>by cases hb) (fun c' hc hc1 hc2=>by
    cases dd with
    |true=>simp only[Ent.rel,hc1];exact⟨rfl,hc2⟩
    |false=>simp only[Ent.rel,hc1];exact⟨rfl,hc2⟩)
   refine⟨c',R',h3,_,rfl,fun T' d' xs' hl=> ?_⟩
   rw[h4]at hl
   cases hl
   rw[h1]
   exact⟨ad,rfl⟩
  ·refine grow ad 0 hsv (by simp;omega) ?_
   cases ad with
   |none=>exact run_firstCells_none w.drew info.size 0 0 0
   |some ad=>exact run_firstCells_some w.drew info.size 0 ad 0 0 [] (by simp) (fun j v hj=>by simp at hj)
 ·by_cases hroom:xs.length+ys.length≤cp
  ·have hsp:o'+xs.length*T.len+us.length≤o'+cp*T.len:=by
    rw[hul,Nat.add_assoc,←Nat.add_mul]
    exact Nat.add_le_add_left (Nat.mul_le_mul_right _ hroom) _
   have hrun:=run_append_room_src (P:=P) w t tx ty e info ht hi b o' xs.length cp xv ys.length us hsrc hroom
    (fun j hj=>hbk.cell (by rw[hsz];omega)) (fun j hj=>hbk.frozen (by rw[hsz];omega))
   rw[hsz]at hrun
   refine⟨_,_,by rw[hsv];exact hrun,?_⟩
   have hoth:∀k,k≠b→(w.setCells b (o'+xs.length*T.len) us).heap[k]? =w.heap[k]? :=fun k hk=>setC_other us _ hk
   obtain⟨r1,r2,r3⟩:=setC_rest (b:=b) us (o'+xs.length*T.len) w
   have hbk':blk (w.setCells b (o'+xs.length*T.len) us) b (o'+cp*T.len):=hbk.setC
   have hrow:rowCont (w.setCells b (o'+xs.length*T.len) us) R' T b o' (xs++ys) fr dd:=by
    refine vals_rowCont (vs:=vs++us) (cellsAt_append.2 ⟨cells_setC_out hat (.inl (by omega)),?_⟩) (contV_same (fun k hk=>hoth k (fun e=>hbf (e▸hk))) (fun k hk=>hoth k (fun e=>hbR (e▸hk))) (fun _ h=>h) hcont)
    rw[hvl]
    exact cells_setC_in hbk hsp
   obtain⟨c',h1,h2,h3,h4⟩:=Rel.addOne (w':=w.setCells b (o'+xs.length*T.len) us) (R':=R') h hok hF hN (some (b,o')) (b::fr) (fun k hk hd=>hoth k (fun e=>hd n en hn hnd (e▸hbn))) (by rw[setC_size];omega) (fun _ _ h=>h.setC') r1 r2 r3 hR hR'
    (List.nodup_cons.2 ⟨hbf,hfn⟩) (fun k hk=>by
     rcases List.mem_cons.1 hk with rfl|hk
     ·exact⟨hbR, .inr ⟨n,en,hn,hnd,hbn⟩⟩
     ·exact⟨(hfr k hk).1, .inr (hfr k hk).2⟩) (fun c' hc hc1 hc2=>by
     have hbk2:blk (w.setCells b (o'+xs.length*T.len) us) b (o'+(xs++ys).length*T.len):=hbk'.mono (Nat.add_le_add_left (Nat.mul_le_mul_right _ (by rw[List.length_append];exact hroom)) _)
     cases dd with
     |true=>simp only[Ent.rel,hc1];exact⟨fr,hc2,hbk2,hrow⟩
     |false=>
      simp only[Ent.rel,hc1]
      obtain⟨hf0,hrow⟩:=hrow
      subst hf0
      exact⟨hc2,hbk2,hrow⟩)
   refine⟨c',R',h3,_,rfl,fun T' d' xs' hl=> ?_⟩
   rw[h4]at hl
   cases hl
   rw[h1]
   exact⟨cp,by rw[List.length_append],⟨by rw[List.length_append];exact hroom,hcp.2⟩,hbk'⟩
  ·refine grow (some ⟨b,o',none⟩) cp hsv (by omega) ?_
   refine run_firstCells_some w.drew info.size xs.length ⟨b,o',none⟩ xs.length cp vs (by rw[hvl,hsz]) (fun j v hj=> ?_)
   have hadd:(⟨b,o',none⟩:Addr).add j=⟨b,o'+j,none⟩:=by unfold Addr.add;split<;>simp_all
   rw[hadd]
   exact hat j v hj
end
end V
end Go.Proofs.YtcbeaoigenjoeaeGreat
