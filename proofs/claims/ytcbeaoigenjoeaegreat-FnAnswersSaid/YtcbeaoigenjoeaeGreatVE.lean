/- A verified symbolic evaluator, part E. -/
import Derived.Laws.IdiomStrings
import Derived.Laws.BytesArg
import Derived.Orders
import Derived.Shelf.Small.Strs
import Derived.KernelRfl
import Derived.Laws.BitsLemmas
import Derived.Test.YtcbeaoigenjoeaeGreatVD
namespace Go.Proofs.YtcbeaoigenjoeaeGreat
namespace V
set_option linter.unusedSimpArgs false
set_option linter.unusedVariables false
section
variable {P:Program} {E:Env} {F:Fr} {c:Cc} {w:World} {R:Cls} {σ:St} {a:Act} {site:Nat} {o:Oper} {d:D}
theorem callFunc_run {g:Nat}{fn:Func}{az:Array Value}(hf:P.funcs[g]? =some fn)(hn:(fn.name== "runtime.NumGoroutine")=false)(hb:fn.body.isNone=false):(callFunc g az).run P w= .ok (.enter g az) w:=by
 have hn':¬fn.name= "runtime.NumGoroutine" :=by simpa using hn
 have hb':¬fn.body=none:=by
  intro e
  rw[e]at hb
  cases hb
 unfold callFunc
 simp[hf,hn',hb']
theorem op_callv (hE:EnvOk P E)(h:Rel F c w R σ a){cl:Call}{f:Operand}{g:Nat}{first caps:List Value}{az:List (Bool×List Lf)}(hop:o.op= .call cl)(hcl:cl.callee= .value f)(hf:a.eval f= .func (.func g) first.toArray caps.toArray)
 (hd:callE E σ site g az some=some d) (hok:dOk σ d=true) (hF:∀n z,look F.io n=some z→n<1000) (hs:1000≤site)
 (hargs:All2 (fun p v=>V1.rel c w R σ.heap p.1 p.2 v) az (first++cl.args.toList.map a.eval++caps)):Does P o a w (Post F σ a d):=by
 have hcon:∃con,E.tab site g=some con:=by
  unfold callE at hd
  cases hx:E.tab site g with
  |none=>rw[hx]at hd;exact no hd
  |some con=>exact⟨con,rfl⟩
 obtain⟨con,hcon⟩:=hcon
 obtain⟨fn,h1,h2,h3⟩:=(hE.tab site g con hcon).fn
 refine Does.enter (f:=g) ?_ (call_run hE h hd hok hF hs hargs)
 have e:first.toArray++cl.args.map a.eval++caps.toArray=(first++cl.args.toList.map a.eval++caps).toArray:=by
  apply Array.ext'
  simp
 have:=callFunc_run (P:=P) (w:=w) (az:=(first++cl.args.toList.map a.eval++caps).toArray) h1 h2 h3
 rw[←e]at this⊢
 rw[Array.append_assoc]at this⊢
 simp[execOp,hop,hcl,resolve,hf,Deferred.ofValue,invoke,this]
end
theorem isU8_eq {k:Tk}(h:isU8 k=true):k= .int .u8:=by
 unfold isU8 at h
 split at h
 ·rfl
 ·cases h
theorem strOf_eq (xs:List Int):strOf xs=strOfNums xs:=rfl
theorem bytesOf_len (s:ByteArray):(bytesOf s).length=s.size:=by
 unfold bytesOf
 rw[List.length_map,Array.length_toList];rfl
theorem rowOwn_u8 {w:World}{b:Nat}:∀(xs:List Int) (o:Nat),(∀(i:Nat) x,xs[i]? =some x→w.cell? ⟨b,o+i,none⟩=some (.int .u8 x))→rowOwn (fun(x:u8T.den) o fp=>ETy.own w u8T x b o fp) u8T.len xs o []
 |[],_,_=>rfl
 |x::xs,o,h=>by
  refine⟨[],[],rfl,⟨_,h 0 x rfl,rfl,rfl⟩,rowOwn_u8 xs (o+1) fun i y hy=> ?_⟩
  rw[show o+1+i=o+(i+1) by omega]
  exact h (i+1) y (by simpa using hy)
theorem flatG_u8 (xs:List Int)(i:Nat)(hi:i<xs.length):(flatG u8T xs)[i]? =some (.int .u8 (xs.getD i 0)):=by
 have:∀ys:List Int,flatG u8T ys=ys.map (Sg.int .u8):=by
  intro ys
  induction ys with
  |nil=>rfl
  |cons y t ih=>show Sg.int .u8 y::flatG u8T t=_;rw[ih];rfl
 refine(congrArg (fun l:List Sg=>l[i]?) (this xs)).trans ?_
 show(xs.map (Sg.int .u8))[i]? =_
 rw[List.getElem?_map,List.getElem?_eq_getElem hi]
 simp[List.getD,hi]
section
variable {P:Program} {E:Env} {F:Fr} {c:Cc} {w:World} {R:Cls} {σ:St} {a:Act} {site:Nat} {o:Oper} {d:D}
theorem op_bytes (hE:EnvOk P E)(h:Rel F c w R σ a){t u e:Nat}{x:Operand}{i0 i:TI}{s:ByteArray}(hop:o.op= .convert t u x)(hi0:E.ty t=some i0)(hk0:i0.k= .str)(hi:E.ty u=some i)(hk:i.k= .sl e)(hv:a.eval x= .string s)(hd:bytesD E (site*64) e s some=some d)(hok:dOk σ d=true)(hF:∀n z,look F.io n=some z→n<1000)(hs:1000≤site):Does P o a w (Post F σ a d):=by
 obtain⟨d0,hu0,_,_,hstr,_⟩:=(hE.ty t i0 hi0).und
 have hsrc:P.underlying t=some .string:=by rw[hu0,hstr hk0]
 unfold bytesD at hd
 split at hd
 ·rename_i j hj
  cases h8:isU8 j.k with
  |false=>rw[h8]at hd;exact no hd
  |true=>
   by_cases hl:(s.size:Int)<(lim:Int)
   ·rw[h8]at hd;dsimp only at hd;rw[smallS_eq,decide_eq_true hl,cond_true]at hd
    have hd:=(Option.some.inj hd).symm
    subst hd
    obtain⟨e',hu,hjo⟩:=tyE_ok hE (t:=u) (j:=j) (by rw[hi];show(match i.k with| .sl e=>E.ty e|_=>none)=some j;rw[hk];exact hj)
    obtain⟨du,hue,_,hint,_⟩:=hjo.und
    have hue:P.underlying e'=some (.int .u8):=by rw[hue,hint _ (isU8_eq h8)]
    have hrun:=run_bytes_of_string (P:=P) w t u e' s hsrc hu hue
    have hex:∀W:World,(convert t u (.string s)).run P w= .ok (.slice (some ⟨w.heap.size,0,none⟩) s.size (grownCap w s.size 0 e')) W→(execOp a.eval o).run P w= .ok (.value (.slice (some ⟨w.heap.size,0,none⟩) s.size (grownCap w s.size 0 e'))) W:=by
     intro W hW
     simp[execOp,hop,hv,hW]
    refine Does.run (hex _ hrun) ?_
    have hge:=grownCap_ge w s.size 0 e'
    have hsz:(bytesRow s (grownCap w s.size 0 e')).size=grownCap w s.size 0 e':=by
     unfold bytesRow
     simp
     have:s.data.size=s.size:=rfl
     omega
    have:=new_rowF (xs:=bytesOf s) (T:=u8T) (dd:=E.deep (site*64)) (ds:=[]) (e:=e') (w1:=w.drew) (cap:=grownCap w s.size 0 e') (R':=R) (fr:=[]) (fm:=((bytesRow s (grownCap w s.size 0 e')).size,(bytesRow s (grownCap w s.size 0 e')).size+1))
     (arr:=bytesRow s (grownCap w s.size 0 e')) h hok hF (by omega) rfl rfl rfl rfl (.inr (Nat.le_refl _)) (Nat.le_trans (Nat.le_of_eq (bytesOf_len s)) hge) (by rw[hsz];show _*1≤_;omega) (fun _ h=>h) (fun b hb=> .inl hb) List.nodup_nil (fun b hb=>by cases hb)
     (own_cont (dd:=E.deep (site*64)) (R:=R) (rowOwn_u8 (bytesOf s) 0 (fun i x hx=>by
      have hil:i<s.data.size:=by
       have hl:=(List.getElem?_eq_some_iff.1 hx).1
       have el:(List.length (α:=u8T.den) (bytesOf s))=s.size:=bytesOf_len s
       exact Nat.lt_of_lt_of_le hl (Nat.le_of_eq el)
      have hc:=World.cell?_alloc_mark w.drew (bytesRow s (grownCap w s.size 0 e')) e' ((bytesRow s (grownCap w s.size 0 e')).size,(bytesRow s (grownCap w s.size 0 e')).size+1) i
      rw[Nat.zero_add]
      refine Eq.trans hc ?_
      rw[bytesRow_at s _ i hil]
      unfold bytesOf at hx
      rw[List.getElem?_map]at hx
      simp at hx
      obtain⟨y,hy1,hy2⟩:=hx
      rw[Array.getElem?_eq_getElem hil]at hy1
      cases hy1
      rw[←hy2])))
    have el:(List.length (α:=u8T.den) (bytesOf s))=s.size:=bytesOf_len s
    rw[el]at this
    exact this
   ·rw[h8]at hd;dsimp only at hd;rw[smallS_eq,decide_eq_false hl,cond_false]at hd
    exact no hd
 ·exact no hd
theorem op_str (hE:EnvOk P E)(h:Rel F c w R σ a){t u e:Nat}{x:Operand}{i0 i:TI}{l:Lf}(hop:o.op= .convert t u x)(hi0:E.ty t=some i0)(hk0:i0.k= .sl e)(hi:E.ty u=some i)(hk:i.k= .str)(hx:σ.eval x=some (.v false [l]))(hd:strD E σ.heap e l some=some d):Does P o a w (Post F σ a d):=by
 obtain⟨dd,hu,_,_,hstr,_⟩:=(hE.ty u i hi).und
 have hdst:P.underlying u=some .string:=by rw[hu,hstr hk]
 unfold strD at hd
 split at hd
 ·rename_i j hj
  cases h8:isU8 j.k with
  |false=>rw[h8]at hd;exact no hd
  |true=>
   rw[h8]at hd
   dsimp only at hd
   split at hd
   ·rename_i xs hxs
    have hd:=(Option.some.inj hd).symm
    subst hd
    obtain⟨e',hsl,hjo⟩:=tyE_ok hE (t:=t) (j:=j) (by rw[hi0];show(match i0.k with| .sl e=>E.ty e|_=>none)=some j;rw[hk0];exact hj)
    obtain⟨du,hue,_,hint,_⟩:=hjo.und
    have hue:P.underlying e'=some (.int .u8):=by rw[hue,hint _ (isU8_eq h8)]
    have hv:=V1.one (eval_rel h hx)
    have hro:=frzR_ro h (R':=fun _=>True) (fun _ _=>trivial) (fun _ _ _ _ _ _=>trivial) hxs hv
    have hrun:(convert t u (a.eval x)).run P w= .ok (.string (strOf xs)) w:=by
     rcases hro with⟨h0,ad,cp,hsv⟩|⟨b,off,cp,hsv,_,_,hx⟩
     ·subst h0
      rw[hsv]
      cases ad with
      |none=>exact run_convert_bytes_nil w t e' hsl hue 0 cp u hdst
      |some ad=>
       rw[run_convert_bytes_string w t u e' _ 0 cp hsl hue hdst]
       exact run_bytesToString w ad 0 cp [] (by rfl)
     ·obtain⟨us,h1,h2⟩:=cellsRo_vals (rowRo_cells.1 hx)
      rw[hsv]
      refine run_convert_bytes_arg w t e' hsl hue b off xs.length cp xs rfl (fun i hi=> ?_) u hdst
      have hg:=flatG_u8 xs i hi
      obtain⟨v,hv1,hv2⟩:=h2.get i _ hg
      rw[h1 i v hv1]
      exact congrArg some hv2
    exact Does.run (v:= .string (strOf xs)) (w':=w) (by simp[execOp,hop,hrun]) (Post.pure h ⟨_,rfl,rfl⟩)
   ·exact no hd
 ·exact no hd
theorem op_convert (hE:EnvOk P E)(h:Rel F c w R σ a){t u:Nat}{x:Operand}(hop:o.op= .convert t u x)(hd:opD E σ site o some=some d)(hok:dOk σ d=true)(hF:∀n z,look F.io n=some z→n<1000)(hs:1000≤site):Does P o a w (Post F σ a d):=by
 simp only[opD,hop]at hd
 split at hd
 ·rename_i i0 i k n hi0 hi hx
  obtain⟨dt,hdt,_⟩:=(hE.ty t i0 hi0).und
  split at hd
  ·rename_i k' hk
   injection hd with hd
   subst hd
   obtain⟨dd,hu,_,hint,_⟩:=(hE.ty u i hi).und
   have hu:P.underlying u=some (.int k'):=by rw[hu,hint k' hk]
   have hv:a.eval x= .int k n:=V1.one (eval_rel h hx)
   refine Does.run (v:= .int k' (k'.wrap n)) (w':=w) ?_ (Post.pure h ⟨_,rfl,rfl⟩)
   simp[execOp,hop,hv,convert,run_underlying hdt,run_underlying hu,Conv.intToInt]
  ·cases hd
 ·rename_i i0 i s hi0 hi hx
  obtain⟨dt,hdt,_⟩:=(hE.ty t i0 hi0).und
  have hv:a.eval x= .string s:=V1.one (eval_rel h hx)
  split at hd
  ·rename_i hk
   injection hd with hd
   subst hd
   obtain⟨dd,hu,_,_,hstr,_⟩:=(hE.ty u i hi).und
   have hu:P.underlying u=some .string:=by rw[hu,hstr hk]
   refine Does.run (v:= .string s) (w':=w) ?_ (Post.pure h ⟨_,rfl,rfl⟩)
   simp[execOp,hop,hv,convert,run_underlying hdt,run_underlying hu]
  ·rename_i e hk
   split at hd
   ·rename_i hk0
    exact op_bytes hE h hop hi0 hk0 hi hk hv hd hok hF hs
   ·cases hd
  ·cases hd
 ·rename_i i0 i l hn1 hn2 hi0 hi hx
  split at hd
  ·rename_i hk
   split at hd
   ·rename_i e hk0
    exact op_str hE h hop hi0 hk0 hi hk hx hd
   ·cases hd
  ·cases hd
 ·cases hd
end
section
variable {P:Program} {E:Env} {F:Fr} {c:Cc} {w:World} {R:Cls} {σ:St} {a:Act} {site:Nat} {o:Oper} {d:D}
theorem map_vals {c:Cc}{w:World}{R:Cls}{H:Hp}:∀{gs:List Sg} {vs:List Value},All2 (Sg.ro w R) gs vs→All2 (fun(p:Bool×List Lf) v=>V1.rel c w R H p.1 p.2 v) (gs.map fun z=>(false,[.val z])) vs
 |[],[],_=>trivial
 |g::gs,v::vs,h=>⟨⟨_,rfl,h.1⟩,map_vals h.2⟩
 |[],_::_,h=>h.elim
 |_::_,[],h=>h.elim
theorem caps_vals {c:Cc}{w:World}{R:Cls}{H:Hp}:∀{ns:List Nat} {vs:List Value},capsRel c H ns vs→All2 (fun(p:Bool×List Lf) v=>V1.rel c w R H p.1 p.2 v) (ns.map fun n=>(false,[.ptr n 0])) vs
 |[],[],_=>trivial
 |n::ns,v::vs,h=>⟨⟨_,rfl,h.1⟩,caps_vals h.2⟩
 |[],_::_,h=>h.elim
 |_::_,[],h=>h.elim
theorem firsts_rel {c:Cc}{w:World}{R:Cls}{H:Hp}{A:ETy}{agg:Bool}{x:A.den}{vs:List Value}(hagg:agg=false→A.len≤1)(h:ETy.vals w R A x vs):
 ∃fs:List Value,firstsV A agg vs=fs.toArray∧All2 (fun(p:Bool×List Lf) v=>V1.rel c w R H p.1 p.2 v) (firsts A agg x) fs:=by
 have hv:=(ETy.vals_iff A x vs).1 h
 cases A with
 |nil=>exact⟨[],rfl,trivial⟩
 |cons t ts=>
  cases agg with
  |true=>exact⟨[.agg vs.toArray],rfl,⟨vs,rfl,All2.map_left _ hv⟩,trivial⟩
  |false=>
   have hl:=hv.length
   rw[ETy.sgs_length]at hl
   have:=hagg rfl
   cases ts with
   |nil=>
    match vs,hv with
    |[v],hv=>exact⟨[v],rfl,⟨_,rfl,hv.1⟩,trivial⟩
   |cons u us=>simp[ETy.len]at this
theorem op_call (hE:EnvOk P E)(h:Rel F c w R σ a){cl:Call}(hop:o.op= .call cl)(hd:opD E σ site o some=some d)
 (hok:dOk σ d=true) (hF:∀n z,look F.io n=some z→n<1000) (hs:1000≤site):Does P o a w (Post F σ a d):=by
 unfold opD at hd
 rw[hop]at hd
 dsimp only at hd
 have no:∀{x:D},(none:Option D)=some x→Does P o a w (Post F σ a d):=fun h=>no h
 split at hd
 ·rename_i b hb
  split at hd
  ·rename_i l hav
   split at hd
   ·rename_i t htt
    split at hd
    ·rename_i i hi
     split at hd
     ·rename_i n hk hl
      cases hd
      exact op_len hE h hop hb hav htt hi hk hl
     ·exact no hd
    ·exact no hd
   ·exact no hd
  ·rename_i hav
   split at hd
   ·rename_i t htt
    split at hd
    ·rename_i i hi
     split at hd
     ·rename_i e hk
      cases hd
      exact op_cap hE h hop hb hav htt hi hk
     ·exact no hd
    ·exact no hd
   ·exact no hd
  ·rename_i s x hav
   split at hd
   ·rename_i t u htt
    split at hd
    ·rename_i i i' hi hi'
     split at hd
     ·rename_i j hj
      split at hd
      ·rename_i hg
       simp only[Bool.and_eq_true]at hg
       obtain⟨h1,h2⟩:=hg
       have h1:=Nat.le_of_ble_eq_true h1
       have h2:=Nat.eq_of_beq_eq_true h2
       split at hd
       ·rename_i k' hk
        split at hd
        ·rename_i k m
         exact op_zeros (x:= .nilp) hE h hop hb hav htt hi hi' hj h1 h2 hk hd hok hF hs
        ·exact no hd
       ·rename_i e' hk
        exact op_append hE h hop hb hav htt hi hi' hj h1 h2 hk hd hok hF hs
       ·exact no hd
      ·exact no hd
     ·exact no hd
    ·exact no hd
   ·exact no hd
  ·rename_i k x r hav
   rw[mmE_bind]at hd
   obtain⟨av,hm,hd⟩:=Option.bind_eq_some_iff.1 hd
   cases hd
   exact op_mm (g:=false) h hop hb hav hm
  ·rename_i k x r hav
   rw[mmE_bind]at hd
   obtain⟨av,hm,hd⟩:=Option.bind_eq_some_iff.1 hd
   cases hd
   exact op_mm (g:=true) h hop hb hav hm
  ·exact no hd
 ·rename_i f hf
  split at hd
  ·rename_i g agg A B x y az hev hav
   split at hd
   ·rename_i hg
    have hv:=eval_rel h hev
    obtain⟨vs,cs,hfv,h1,h2⟩:=(show LTy.ro w R (.fn g agg A B) (x,y) (a.eval f)from V1.one hv)
    obtain⟨fs,hfs,h3⟩:=firsts_rel (c:=c) (H:=σ.heap) (agg:=agg) (by
     intro ha
     subst ha
     simpa [Nat.ble_eq]using hg) h1
    rw[hfs]at hfv
    have h4:=map_vals (c:=c) (H:=σ.heap) ((ETy.vals_iff B y _).1 h2)
    exact op_callv hE h hop hf (first:=fs) (caps:=cs.toList) (by simpa using hfv) hd hok hF hs (All2.append (All2.append h3 (avs_rel h hav)) h4)
   ·exact no hd
  ·rename_i g caps az hev hav
   have hv:=eval_rel h hev
   obtain⟨vs,hfv,h1⟩:=(show(Lf.fnl g caps).rel c w R σ.heap (a.eval f)from V1.one hv)
   exact op_callv hE h hop hf (first:=[]) (caps:=vs) hfv hd hok hF hs (by
    rw[List.nil_append]
    exact All2.append (avs_rel h hav) (caps_vals h1))
  ·exact no hd
 ·exact no hd
theorem op_ok (hE:EnvOk P E)(h:Rel F c w R σ a)(hd:opD E σ site o some=some d)
 (hok:dOk σ d=true) (hF:∀n z,look F.io n=some z→n<1000) (hs:1000≤site):Does P o a w (Post F σ a d):=by
 cases hop:o.op with
 |move x=>exact op_move h (.inl hop) hd
 |assign x=>exact op_move h (.inr hop) hd
 |pick x y z=>exact op_pick h hop hd
 |load t x=>exact op_load hE h hop hd
 |store t x y=>exact op_store hE h hop hd hF
 |fieldAddr t x f=>exact op_fieldAddr hE h hop hd
 |field t x f=>exact op_field hE h hop hd
 |indexAddr t x i=>exact op_indexAddr hE h hop hd
 |index t x i=>exact op_index hE h hop hd
 |nilCheck x=>exact op_nilCheck h hop hd
 |binOp op t x y u=>exact op_binOp hE h hop hd
 |unOp op t x=>exact op_unOp h hop hd
 |convert t u x=>exact op_convert hE h hop hd hok hF hs
 |extract x i=>exact op_extract h hop hd
 |build t ps=>exact op_build hE h hop hd
 |slice t x lo hi mx=>exact op_slice hE h hop hd hok hF hs
 |alloc t=>exact op_alloc hE h hop hd hok hF hs
 |box t x=>exact op_box h hop hd hok hF hs
 |makeSlice t l cp=>exact op_makeSlice hE h hop hd hok hF hs
 |buildSlice t n ps=>exact op_buildSlice hE h hop hd hok hF hs
 |call cl=>exact op_call hE h hop hd hok hF hs
 |makeFunc fn first captured=>
  cases fn with
  |func f=>exact op_makeFunc h hop hd
  |_=>simp[opD,hop]at hd
 |_=>simp[opD,hop]at hd
end
def SubH (H H':Hp):Prop:=∀n e,look H n=some e→look H' n=some e
structure Sub (σ τ:St):Prop where
 tm:∀t av,look σ.tmps t=some av→look τ.tmps t=some av
 hp:SubH σ.heap τ.heap
section
variable {H H':Hp} {σ τ:St}
theorem rowAs_mono (s:SubH H H'){n:Nat}{T:ETy}{x:List T.den}(h:rowAs H n T=some x):rowAs H' n T=some x:=by
 unfold rowAs at h⊢
 split at h
 ·rename_i T' d xs hl
  rw[s n _ hl]
  exact h
 ·exact no h
theorem refAs_mono (s:SubH H H'){n:Nat}{t:LTy}{x:t.den}(h:refAs H n t=some x):refAs H' n t=some x:=by
 cases t with
 |sl T=>exact rowAs_mono s h
 |_=>exact no h
theorem partOf_mono (s:SubH H H'){n i j:Nat}{g:Sg}(h:partOf H n i j=some g):partOf H' n i j=some g:=by
 unfold partOf at h⊢
 split at h
 ·rename_i T' d xs hl
  rw[s n _ hl]
  exact h
 ·exact no h
theorem frzR_mono (s:SubH H H'){t:LTy}{l:Lf}{x:t.den}(h:frzR H t l=some x):frzR H' t l=some x:=by
 cases l with
 |ref n=>exact refAs_mono s h
 |pref n i j=>
  have h:(match partOf H n i j with|some g=>t.get g|none=>none)=some x:=h
  show(match partOf H' n i j with|some g=>t.get g|none=>none)=some x
  split at h
  ·rename_i g hg
   rw[partOf_mono s hg]
   exact h
  ·exact no h
 |_=>exact h
theorem frzRs_mono (s:SubH H H'):∀(T:ETy) (ls:List Lf) (x:T.den),frzRs H T ls=some x→frzRs H' T ls=some x
 | .nil,ls,x,h=>h
 | .cons t .nil,ls,x,h=>by
   match ls,h with
   |[l],h=>exact frzR_mono s h
   |[],h=>exact no h
   |_::_::_,h=>exact no h
 | .cons t (.cons u ts),ls,x,h=>by
   match ls,h with
   |l::r,h=>
    have h:(match frzR H t l,frzRs H (.cons u ts) r with|some x,some y=>some (x,y)|_,_=>none)=some x:=h
    show(match frzR H' t l,frzRs H' (.cons u ts) r with|some x,some y=>some (x,y)|_,_=>none)=some x
    split at h
    ·rename_i y z hy hz
     rw[frzR_mono s hy,frzRs_mono s _ _ _ hz]
     exact h
    ·exact no h
   |[],h=>exact no h
theorem frzB_mono (s:SubH H H'){T:ETy}{n:Nat}{x:T.den}(h:frzB H T n=some x):frzB H' T n=some x:=by
 unfold frzB at h⊢
 split at h
 ·rename_i ls hl
  rw[s n _ hl]
  exact frzRs_mono s _ _ _ h
 ·exact no h
theorem capAs_mono (s:SubH H H'){n:Nat}{t:LTy}{x:t.den}(h:capAs H n t=some x):capAs H' n t=some x:=by
 cases t with
 |ptr T=>exact frzB_mono s h
 |_=>exact no h
theorem frzCaps_mono (s:SubH H H'):∀(T:ETy) (ls:List Nat) (x:T.den),frzCaps H T ls=some x→frzCaps H' T ls=some x
 | .nil,ls,x,h=>h
 | .cons t .nil,ls,x,h=>by
   match ls,h with
   |[l],h=>exact capAs_mono s h
   |[],h=>exact no h
   |_::_::_,h=>exact no h
 | .cons t (.cons u ts),ls,x,h=>by
   match ls,h with
   |l::r,h=>
    have h:(match capAs H l t,frzCaps H (.cons u ts) r with|some x,some y=>some (x,y)|_,_=>none)=some x:=h
    show(match capAs H' l t,frzCaps H' (.cons u ts) r with|some x,some y=>some (x,y)|_,_=>none)=some x
    split at h
    ·rename_i y z hy hz
     rw[capAs_mono s hy,frzCaps_mono s _ _ _ hz]
     exact h
    ·exact no h
   |[],h=>exact no h
theorem fnAs_mono (s:SubH H H'){f:Nat}{caps:List Nat}{t:LTy}{x:t.den}(h:fnAs H f caps t=some x):fnAs H' f caps t=some x:=by
 cases t with
 |fn f' g A B=>
  cases A with
  |cons _ _=>cases g<;>cases hf:decide (f'=f)<;>simp[fnAs,hf]at h
  |nil=>
   cases g with
   |true=>cases hf:decide (f'=f)<;>simp[fnAs,hf]at h
   |false=>
    cases hf:decide (f'=f)with
    |false=>simp[fnAs,hf]at h
    |true=>
     have e:∀H,fnAs H f caps (.fn f' false .nil B)=(match frzCaps H B caps with|some b=>some ((),b)|none=>none):=by
      intro H
      simp only[fnAs,hf]
      cases frzCaps H B caps<;>rfl
     rw[e]at h⊢
     split at h
     ·rename_i b hb
      rw[frzCaps_mono s _ _ _ hb]
      exact h
     ·exact no h
 |_=>exact no h
theorem frz_mono (s:SubH H H'){t:LTy}{l:Lf}{x:t.den}(h:frz H t l=some x):frz H' t l=some x:=by
 cases l with
 |ptr n off=>
  cases off with
  |zero=>exact capAs_mono s h
  |succ _=>exact no h
 |rptr p off=>exact h
 |fnl f caps=>exact fnAs_mono s h
 |val g=>exact frzR_mono (l:= .val g) s h
 |nil0=>exact frzR_mono (l:= .nil0) s h
 |ref n=>exact frzR_mono (l:= .ref n) s h
 |pref n i j=>exact frzR_mono (l:= .pref n i j) s h
 |eptr n i j=>exact no h
 |nilp=>exact no h
 |dead=>exact no h
theorem frzs_mono (s:SubH H H'):∀(T:ETy) (ls:List Lf) (x:T.den),frzs H T ls=some x→frzs H' T ls=some x
 | .nil,ls,x,h=>h
 | .cons t .nil,ls,x,h=>by
   match ls,h with
   |[l],h=>exact frz_mono s h
   |[],h=>exact no h
   |_::_::_,h=>exact no h
 | .cons t (.cons u ts),ls,x,h=>by
   match ls,h with
   |l::r,h=>
    have h:(match frz H t l,frzs H (.cons u ts) r with|some x,some y=>some (x,y)|_,_=>none)=some x:=h
    show(match frz H' t l,frzs H' (.cons u ts) r with|some x,some y=>some (x,y)|_,_=>none)=some x
    split at h
    ·rename_i y z hy hz
     rw[frz_mono s hy,frzs_mono s _ _ _ hz]
     exact h
    ·exact no h
   |[],h=>exact no h
theorem lenOf_mono (s:SubH H H'){l:Lf}{n:Nat}(h:lenOf H l=some n):lenOf H' l=some n:=by
 cases l with
 |ref m=>
  have h:(match look H m with|some (.row _ _ xs)=>some xs.length|_=>none)=some n:=h
  show(match look H' m with|some (.row _ _ xs)=>some xs.length|_=>none)=some n
  split at h
  ·rename_i hl
   rw[s m _ hl]
   exact h
  ·exact no h
 |pref m i j=>
  have h:(match partOf H m i j with|some (.sl _ ys)=>some ys.length|_=>none)=some n:=h
  show(match partOf H' m i j with|some (.sl _ ys)=>some ys.length|_=>none)=some n
  split at h
  ·rename_i hl
   rw[partOf_mono s hl]
   exact h
  ·exact no h
 |val g=>cases g<;>exact h
 |_=>exact h
theorem isRow_mono (s:SubH H H'){l:Lf}(h:isRow H l=true):isRow H' l=true:=by
 cases l with
 |ref m=>
  have h:(match look H m with|some (.row ..)=>true|_=>false)=true:=h
  show(match look H' m with|some (.row ..)=>true|_=>false)=true
  split at h
  ·rename_i hl
   rw[s m _ hl]
  ·cases h
 |val g=>cases g<;>exact h
 |_=>exact h
theorem isPtr_mono (s:SubH H H'){l:Lf}(h:isPtr H l=true):isPtr H' l=true:=by
 cases l with
 |ptr m off=>
  have h:(match look H m with|some (.box _)=>true|_=>false)=true:=h
  show(match look H' m with|some (.box _)=>true|_=>false)=true
  split at h
  ·rename_i hl
   rw[s m _ hl]
  ·cases h
 |eptr m i j=>
  have h:(match look H m with|some (.row ..)=>true|_=>false)=true:=h
  show(match look H' m with|some (.row ..)=>true|_=>false)=true
  split at h
  ·rename_i hl
   rw[s m _ hl]
  ·cases h
 |val g=>cases g<;>exact h
 |_=>exact h
theorem alive_mono (s:SubH H H'){l:Lf}(h:alive H l=true):alive H' l=true:=by
 cases l with
 |ptr m off=>
  have h:(match look H m with|some (.box _)=>true|_=>false)=true:=h
  show(match look H' m with|some (.box _)=>true|_=>false)=true
  split at h
  ·rename_i hl
   rw[s m _ hl]
  ·cases h
 |eptr m i j=>
  have h:(match look H m with|some (.row ..)=>true|_=>false)=true:=h
  show(match look H' m with|some (.row ..)=>true|_=>false)=true
  split at h
  ·rename_i hl
   rw[s m _ hl]
  ·cases h
 |ref m=>
  have h:(match look H m with|some (.row ..)=>true|_=>false)=true:=h
  show(match look H' m with|some (.row ..)=>true|_=>false)=true
  split at h
  ·rename_i hl
   rw[s m _ hl]
  ·cases h
 |_=>exact h
theorem alives_mono (s:SubH H H'):∀{ls:List Lf},alives H ls=true→alives H' ls=true
 |[],h=>rfl
 |l::ls,h=>by
  simp only[alives,Bool.and_eq_true]at h⊢
  exact⟨alive_mono s h.1,alives_mono s h.2⟩
theorem ownL_mono (s:SubH H H'){l:Lf}(h:ownL H l=true):ownL H' l=true:=by
 cases l with
 |ref m=>
  have h:(match look H m with|some (.row _ d _)=>d|_=>false)=true:=h
  show(match look H' m with|some (.row _ d _)=>d|_=>false)=true
  split at h
  ·rename_i hl
   rw[s m _ hl]
   exact h
  ·cases h
 |_=>exact h
theorem ownLs_mono (s:SubH H H'):∀{ls:List Lf},ownLs H ls=true→ownLs H' ls=true
 |[],h=>rfl
 |l::ls,h=>by
  simp only[ownLs,Bool.and_eq_true]at h⊢
  exact⟨ownL_mono s h.1,ownLs_mono s h.2⟩
theorem addrOff_mono (s:SubH H H'){l l':Lf}{off:Nat}(h:addrOff H l off=some l'):addrOff H' l off=some l':=by
 unfold addrOff at h⊢
 split at h
 ·rename_i hp
  rw[isPtr_mono s hp]
  exact h
 ·exact no h
theorem loadL_mono (s:SubH H H'){l:Lf}{n:Nat}{ls:List Lf}(h:loadL H l n=some ls):loadL H' l n=some ls:=by
 unfold loadL at h⊢
 split at h
 ·rename_i m off
  split at h
  ·rename_i hl
   rw[s m _ hl]
   exact h
  ·exact no h
 ·exact h
 ·exact h
 ·rename_i m i j
  split at h
  ·rename_i hl
   rw[s m _ hl]
   exact h
  ·exact no h
 ·exact no h
theorem indexE_mono {α:Type}(s:SubH H H'){n:Nat}{l:Lf}{i:Int}{K:AV→Option α}{z:α}(h:indexE H n l i K=some z):indexE H' n l i K=some z:=by
 unfold indexE at h⊢
 split at h
 ·exact h
 ·rename_i m
  split at h
  ·rename_i hl
   rw[s m _ hl]
   exact h
  ·exact no h
 ·exact no h
theorem sliceE_mono {α:Type}(s:SubH H H'){site n:Nat}{l:Lf}{lo hi mx:Option Int}{K:D→Option α}{z:α}(h:sliceE H site n l lo hi mx K=some z):sliceE H' site n l lo hi mx K=some z:=by
 unfold sliceE at h⊢
 split at h
 ·exact h
 ·exact h
 ·rename_i m
  split at h
  ·rename_i hl
   rw[s m _ hl]
   exact h
  ·exact no h
 ·exact no h
theorem frzEach_mono (s:SubH H H'){T:ETy}:∀{ls:List (List Lf)} {xs:List T.den},frzEach H T ls=some xs→frzEach H' T ls=some xs
 |[],xs,h=>h
 |l::ls,xs,h=>by
  unfold frzEach at h⊢
  split at h
  ·rename_i y z hy hz
   rw[frzRs_mono s _ _ _ hy,frzEach_mono s hz]
   exact h
  ·exact no h
theorem appendE_mono {α:Type}(E:Env)(s:SubH H H'){site:Nat}{T:ETy}{x y:Lf}{K:D→Option α}{z:α}(h:appendE E H site T x y K=some z):appendE E H' site T x y K=some z:=by
 cases y with
 |nil0=>
  unfold appendE at h⊢
  dsimp only at h⊢
  split at h
  ·rename_i hr
   rw[isRow_mono s hr]
   exact h
  ·exact no h
 |_=>
  unfold appendE at h⊢
  dsimp only at h⊢
  split at h
  ·exact no h
  ·rename_i ys hy
   rw[frzR_mono s hy]
   dsimp only
   cases x with
   |nil0=>
    cases hf:T.flat<;>rw[hf]at h<;>dsimp only at h⊢<;>first
     |exact h
     |(split at h
       ·rename_i hl
        rw[s _ _ hl]
        exact h
       ·exact no h)
     |exact no h
   |ref n=>
    dsimp only at h⊢
    split at h
    ·rename_i T' d xs hl
     rw[s _ _ hl]
     dsimp only
     split at h
     ·exact no h
     ·cases hf:T.flat<;>rw[hf]at h<;>cases d<;>dsimp only at h⊢<;>first
       |exact h
       |(split at h
         ·rename_i hl' hb
          rw[s _ _ hl',hb]
          exact h
         ·exact no h)
       |exact no h
    ·exact no h
   |_=>exact no h
end
section
variable {E:Env} {σ τ:St} {site:Nat} {o:Oper} {d:D}
theorem eval_mono (s:Sub σ τ){x:Operand}{av:AV}(h:σ.eval x=some av):τ.eval x=some av:=by
 cases x with
 |tmp t=>exact s.tm t av h
 |_=>exact h
theorem avs_mono (s:Sub σ τ):∀{xs:List Operand} {az:List (Bool×List Lf)},avs σ xs=some az→avs τ xs=some az
 |[],az,h=>h
 |x::xs,az,h=>by
  unfold avs at h⊢
  split at h
  ·rename_i g ls r hx hr
   rw[eval_mono s hx,avs_mono s hr]
   exact h
  ·exact no h
theorem buildLs_mono (s:Sub σ τ){fields:List (Nat×Nat×Bool)}:∀{ps:List (Nat×Operand)} {ls r:List Lf},buildLs fields σ ls ps=some r→buildLs fields τ ls ps=some r
 |[],ls,r,h=>h
 |(f,x)::ps,ls,r,h=>by
  unfold buildLs at h⊢
  split at h
  ·rename_i off n g g' ms hf hx
   rw[hf,eval_mono s hx]
   dsimp only
   split at h
   ·rename_i hg
    simp only[Bool.and_eq_true]at hg
    rw[hg.1.1,hg.1.2,alives_mono s.hp hg.2]
    exact buildLs_mono s h
   ·exact no h
  ·exact no h
theorem intOf?_mono (s:Sub σ τ){x:Operand}{n:Int}(h:intOf? (σ.eval x)=some n):intOf? (τ.eval x)=some n:=by
 cases hx:σ.eval x with
 |none=>rw[hx]at h;exact no h
 |some av=>rw[eval_mono s hx];rw[hx]at h;exact h
theorem getI_mono (s:Sub σ τ){x:Option Operand}{n:Option Int}(h:getI σ x=some n):getI τ x=some n:=by
 cases x with
 |none=>exact h
 |some y=>
  unfold getI at h⊢
  dsimp only at h⊢
  split at h
  ·rename_i m hm
   rw[intOf?_mono s hm]
   exact h
  ·exact no h
theorem roNames_nil {H H':Hp}:∀{ls:List Lf} {p:Nat},roNames H [] p ls=[]→roNames H' [] p ls=[]
 |[],_,_=>rfl
 |l::ls,p,h=>by
  unfold roNames at h⊢
  obtain⟨h1,h2⟩:=List.append_eq_nil_iff.1 h
  rw[roNames_nil h2,List.append_nil]
  cases l with
  |ptr n off=>simp[look,roName,deepNames]at h1
  |fnl f caps=>
   simp[look,roName,deepNames]at h1
   simp[look,roName,deepNames,h1.1,boxRefs]
  |_=>exact h1
theorem wrNames_nil {H:Hp}:∀{ls:List Lf} {p:Nat},wrNames H [] p ls=[]
 |[],_=>rfl
 |l::ls,p=>by
  unfold wrNames
  rw[wrNames_nil]
  rfl
theorem ioSet_sets {site p:Nat}{ow:Bool}{l:Lf}{g:Sg}{a b:Hp}{c:List Nat}(h:ioSet σ site p ow l g=some (a,b,c)):a≠[]∨c≠[]:=by
 rw[ioSet_eq]at h
 unfold ioSet0 at h
 repeat' split at h
 all_goals first
  |exact no h
  |(have h:=Option.some.inj h
    have h:=congrArg Prod.fst h
    dsimp only at h
    rw[←h]
    simp;done)
  |(have h:=Option.some.inj h
    have h:=congrArg (fun z=>z.2.2) h
    dsimp only at h
    rw[←h]
    simp;done)
theorem ioSets_nil {site:Nat}{ls:List Lf}{io:List (Nat×Bool)}{gs:List Sg}{a b:Hp}{c:List Nat}(h:ioSets σ site ls io gs=some (a,b,c))(ha:a=[])(hc:c=[]):io=[]:=by
 match io,gs,h with
 |[],_,_=>rfl
 |(p,ow)::r,[],h=>exact no h
 |(p,ow)::r,g::gs,h=>
  unfold ioSets at h
  split at h
  ·split at h
   ·rename_i a1 b1 c1 a2 b2 c2 h1 h2
    have hx:=congrArg (fun z=>z.2.2) (Option.some.inj h)
    have h:=congrArg Prod.fst (Option.some.inj h)
    dsimp only at h hx
    rw[←h]at ha
    rw[←hx]at hc
    rcases ioSet_sets h1 with k|k
    ·exact absurd (List.append_eq_nil_iff.1 ha).1 k
    ·exact absurd (List.append_eq_nil_iff.1 hc).1 k
   ·exact no h
  ·exact no h
theorem ioSets_none {site:Nat}{ls:List Lf}{gs:List Sg}:ioSets σ site ls [] gs=some ([],[],[]):=by
 unfold ioSets
 rfl
theorem callC_mono (s:Sub σ τ){con:Con}{az:List (Bool×List Lf)}(h:callC σ site con az some=some d)(hd:d.dels=[])(hs:d.sets=[]):callC τ site con az some=some d:=by
 unfold callC at h⊢
 dsimp only at h⊢
 split at h
 ·rename_i x hsh hfz
  rw[frzs_mono s.hp _ _ _ hfz]
  split at h
  ·rename_i hg
   obtain⟨y,hy,h⟩:=Option.bind_eq_some_iff.1 h
   split at h
   ·rename_i ss as' ds hios
    have h:=Option.some.inj h
    subst h
    dsimp only at hd hs
    have hio:=ioSets_nil hios hs (List.append_eq_nil_iff.1 hd).1
    rw[hio]at hios hg hd⊢
    rw[ioSets_none]at hios
    have hios:=Option.some.inj hios
    injection hios with e1 e2
    injection e2 with e2 e3
    subst e1;subst e2;subst e3
    rw[hsh]
    dsimp only
    rw[wrNames_nil]
    simp only[Bool.and_eq_true]at hg
    simp only[fsts,nodup,disj,Bool.and_self,hg.2,hy,Option.bind_some,ioSets_none]
    congr 2
    rw[List.nil_append]at hd⊢
    cases hr:roOut con.own (List.drop (List.length ([]:List (Nat×Bool))) (con.B.sgs y))with
    |false=>rfl
    |true=>
     rw[hr]at hd
     dsimp only at hd⊢
     rw[roNames_nil hd,hd]
     rfl
   ·exact no h
  ·exact no h
 ·exact no h
theorem callE_mono (s:Sub σ τ){g:Nat}{az:List (Bool×List Lf)}(h:callE E σ site g az some=some d)(hd:d.dels=[])(hs:d.sets=[]):callE E τ site g az some=some d:=by
 unfold callE at h⊢
 split at h
 ·exact no h
 ·exact callC_mono s h hd hs
theorem frzEach_mono' (s:Sub σ τ){T:ETy}{ls:List (List Lf)}{xs:List T.den}(h:frzEach σ.heap T ls=some xs):frzEach τ.heap T ls=some xs:=frzEach_mono s.hp h
theorem call_mono (s:Sub σ τ){cl:Call}(hop:o.op= .call cl)(h:opD E σ site o some=some d)(hd:d.dels=[])(hs:d.sets=[]):opD E τ site o some=some d:=by
 unfold opD at h⊢
 rw[hop]at h⊢
 dsimp only at h⊢
 split at h
 ·rename_i b hb
  split at h
  ·rename_i l hav
   rw[avs_mono s hav]
   try dsimp only
   split at h
   ·rename_i t htt
    try rw[htt]
    try dsimp only
    split at h
    ·rename_i i hi
     try rw[hi]
     try dsimp only
     split at h
     ·rename_i n hk hl
      try rw[hk]
      rw[lenOf_mono s.hp hl]
      exact h
     ·exact no h
    ·exact no h
   ·exact no h
  ·rename_i hav
   rw[avs_mono s hav]
   exact h
  ·rename_i s' x hav
   rw[avs_mono s hav]
   try dsimp only
   split at h
   ·rename_i t u htt
    try rw[htt]
    try dsimp only
    split at h
    ·rename_i i i' hi hi'
     try rw[hi,hi']
     try dsimp only
     split at h
     ·rename_i j hj
      try rw[hj]
      try dsimp only
      split at h
      ·rename_i hg
       try rw[hg]
       try dsimp only
       split at h
       ·rename_i k hk
        try rw[hk]
        exact h
       ·rename_i e hk
        try rw[hk]
        exact appendE_mono E s.hp h
       ·exact no h
      ·exact no h
     ·exact no h
    ·exact no h
   ·exact no h
  ·rename_i hav
   rw[avs_mono s hav]
   exact h
  ·rename_i hav
   rw[avs_mono s hav]
   exact h
  ·exact no h
 ·rename_i f hf
  split at h
  ·rename_i g agg A B x y az hev hav
   rw[eval_mono s hev,avs_mono s hav]
   try dsimp only
   split at h
   ·rename_i hg
    try rw[hg]
    exact callE_mono s h hd hs
   ·exact no h
  ·rename_i g caps az hev hav
   rw[eval_mono s hev,avs_mono s hav]
   exact callE_mono s h hd hs
  ·exact no h
 ·exact no h
end
section
variable {E:Env} {σ τ:St} {site:Nat} {o:Oper} {d:D}
theorem outO_mono {α:Type}{a b:Option AV}{K:AV→Option α}{z:α}(h:outO a K=some z)(hab:∀x,a=some x→b=some x):outO b K=some z:=by
 cases a with
 |none=>exact no h
 |some x=>rw[hab x rfl];exact h
theorem storeD_sets {l:Lf}{ls:List Lf}(h:storeD E σ l ls some=some d)(hs:d.sets=[]):False:=by
 rw[storeD_eq]at h
 unfold storeD0 at h
 repeat' split at h
 all_goals first
  |exact no h
  |(have h:=Option.some.inj h
    rw[←h]at hs
    cases hs)
theorem emptyOf_mono {H H':Hp}(s:SubH H H'){av:AV}{e:Bool}(h:emptyOf H av=some e):emptyOf H' av=some e:=by
 unfold emptyOf at h
 split at h
 ·exact h
 ·exact h
 ·rename_i n
  split at h
  ·rename_i hl
   simp only[emptyOf,s n _ hl]
   exact h
  ·exact no h
 ·exact no h
theorem strD_mono {H H':Hp}(s:SubH H H'){e:Nat}{l:Lf}(h:strD E H e l some=some d):strD E H' e l some=some d:=by
 unfold strD at h⊢
 split at h
 ·rename_i j hj
  revert h
  cases isU8 j.k with
  |false=>exact fun h=>no h
  |true=>
   intro h
   dsimp only at h⊢
   split at h
   ·rename_i xs hx
    rw[frzR_mono s hx]
    exact h
   ·exact no h
 ·exact no h
theorem opD_mono (s:Sub σ τ)(h:opD E σ site o some=some d)(hd:d.dels=[])(hs:d.sets=[]):opD E τ site o some=some d:=by
 cases hop:o.op with
 |call cl=>exact call_mono s hop h hd hs
 |store t x y=>
  exfalso
  unfold opD at h
  rw[hop]at h
  dsimp only at h
  split at h
  ·split at h
   ·exact storeD_sets h hs
   ·exact no h
  ·exact no h
 |pick x y z=>
  unfold opD at h⊢
  rw[hop]at h⊢
  dsimp only at h⊢
  split at h
  ·rename_i t hx
   rw[eval_mono s hx]
   dsimp only
   cases t with
   |true=>exact outO_mono h fun _ he=>eval_mono s he
   |false=>exact outO_mono h fun _ he=>eval_mono s he
  ·exact no h
 |move x=>
  unfold opD at h⊢
  rw[hop]at h⊢
  dsimp only at h⊢
  split at h
  ·rename_i hx;rw[eval_mono s hx];exact h
  ·exact no h
 |assign x=>
  unfold opD at h⊢
  rw[hop]at h⊢
  dsimp only at h⊢
  split at h
  ·rename_i hx;rw[eval_mono s hx];exact h
  ·exact no h
 |alloc t=>
  unfold opD at h⊢
  rw[hop]at h⊢
  exact h
 |box t x=>
  unfold opD at h⊢
  rw[hop]at h⊢
  dsimp only at h⊢
  split at h
  ·rename_i hx
   rw[eval_mono s hx]
   dsimp only
   split at h
   ·rename_i ha;rw[alives_mono s.hp ha];exact h
   ·exact no h
  ·exact no h
 |load t x=>
  unfold opD at h⊢
  rw[hop]at h⊢
  dsimp only at h⊢
  split at h
  ·rename_i hi hx
   try rw[hi]
   rw[eval_mono s hx]
   dsimp only
   split at h
   ·rename_i hl hg
    rw[loadL_mono s.hp hl]
    try rw[hg]
    exact h
   ·exact no h
  ·exact no h
 |fieldAddr t x f=>
  unfold opD at h⊢
  rw[hop]at h⊢
  dsimp only at h⊢
  split at h
  ·rename_i hi hx
   try rw[hi]
   rw[eval_mono s hx]
   dsimp only
   split at h
   ·rename_i hf
    try rw[hf]
    try dsimp only
    split at h
    ·rename_i hl
     rw[addrOff_mono s.hp hl]
     exact h
    ·exact no h
   ·exact no h
  ·exact no h
 |field t x f=>
  unfold opD at h⊢
  rw[hop]at h⊢
  dsimp only at h⊢
  split at h
  ·rename_i hi hx
   try rw[hi]
   rw[eval_mono s hx]
   exact h
  ·exact no h
 |indexAddr t x i=>
  unfold opD at h⊢
  rw[hop]at h⊢
  dsimp only at h⊢
  split at h
  ·rename_i hi hx hy
   try rw[hi]
   rw[eval_mono s hx,eval_mono s hy]
   exact indexE_mono s.hp h
  ·exact no h
 |index t x i=>
  unfold opD at h⊢
  rw[hop]at h⊢
  dsimp only at h⊢
  split at h
  ·rename_i hi hx hy
   try rw[hi]
   rw[eval_mono s hx,eval_mono s hy]
   exact h
  ·exact no h
 |nilCheck x=>
  unfold opD at h⊢
  rw[hop]at h⊢
  dsimp only at h⊢
  split at h
  ·rename_i hx
   rw[eval_mono s hx]
   dsimp only
   split at h
   ·rename_i hp;rw[isPtr_mono s.hp hp];exact h
   ·exact no h
  ·exact no h
 |binOp op t x y u=>
  unfold opD at h⊢
  rw[hop]at h⊢
  dsimp only at h⊢
  split at h
  ·rename_i hi hx hy
   try rw[hi]
   rw[eval_mono s hx,eval_mono s hy]
   dsimp only
   split at h
   ·rename_i hq
    try rw[hq]
    try dsimp only
    split at h
    ·rename_i he
     rw[emptyOf_mono s.hp he]
     exact h
    ·exact no h
   ·rename_i hq
    try rw[hq]
    exact h
  ·exact no h
 |unOp op t x=>
  unfold opD at h⊢
  rw[hop]at h⊢
  dsimp only at h⊢
  split at h
  ·rename_i hx;rw[eval_mono s hx];exact h
  ·rename_i hx;rw[eval_mono s hx];exact h
  ·exact no h
 |convert t u x=>
  unfold opD at h⊢
  rw[hop]at h⊢
  dsimp only at h⊢
  split at h
  ·rename_i h1 h2 hx
   try rw[h1]
   try rw[h2]
   rw[eval_mono s hx]
   exact h
  ·rename_i h1 h2 hx
   try rw[h1]
   try rw[h2]
   rw[eval_mono s hx]
   exact h
  ·rename_i i0 i1 l hn1 hn2 h1 h2 hx
   rw[h1,h2,eval_mono s hx]
   have main:∀{l:Lf},(match i1.k with
    | .str=>(match i0.k with| .sl e=>strD E σ.heap e l some|_=>none)
    |_=>none)=some d→(match i1.k with
    | .str=>(match i0.k with| .sl e=>strD E τ.heap e l some|_=>none)
    |_=>none)=some d:=by
    intro l
    split
    ·split
     ·exact fun h=>strD_mono s.hp h
     ·exact fun h=>no h
    ·exact fun h=>no h
   cases l with
   |val g=>
    cases g with
    |int k n=>exact absurd rfl (hn1 k n)
    |str b=>exact absurd rfl (hn2 b)
    |_=>exact main h
   |_=>exact main h
  ·exact no h
 |extract x i=>
  unfold opD at h⊢
  rw[hop]at h⊢
  dsimp only at h⊢
  split at h
  ·rename_i hx;rw[eval_mono s hx];exact h
  ·exact no h
 |build t ps=>
  unfold opD at h⊢
  rw[hop]at h⊢
  dsimp only at h⊢
  split at h
  ·rename_i hi
   try rw[hi]
   try dsimp only
   split at h
   ·rename_i hg hl
    try rw[hg]
    rw[buildLs_mono s hl]
    exact h
   ·exact no h
  ·exact no h
 |slice t x lo hi mx=>
  unfold opD at h⊢
  rw[hop]at h⊢
  dsimp only at h⊢
  split at h
  ·rename_i h1 hx h2 h3 h4
   try rw[h1]
   rw[eval_mono s hx,getI_mono s h2,getI_mono s h3,getI_mono s h4]
   dsimp only
   split at h
   ·rename_i hk
    try rw[hk]
    exact h
   ·rename_i hk
    try rw[hk]
    try dsimp only
    split at h
    ·rename_i hj
     try rw[hj]
     exact sliceE_mono s.hp h
    ·exact no h
   ·exact no h
  ·exact no h
 |makeSlice t l cp=>
  unfold opD at h⊢
  rw[hop]at h⊢
  dsimp only at h⊢
  split at h
  ·rename_i hi h1 h2
   try rw[hi]
   rw[intOf?_mono s h1,intOf?_mono s h2]
   exact h
  ·exact no h
 |buildSlice t n ps=>
  unfold opD at h⊢
  rw[hop]at h⊢
  dsimp only at h⊢
  split at h
  ·rename_i hi hav
   try rw[hi]
   rw[avs_mono s hav]
   dsimp only
   split at h
   ·rename_i hj
    try rw[hj]
    try dsimp only
    split at h
    ·rename_i hf hg
     rw[frzEach_mono s.hp hf]
     try rw[hg]
     try dsimp only
     split at h
     ·rename_i hr
      have hr':((!(E.deep (site*64))||ownLs τ.heap (flat2 (lss ‹List (Bool×List Lf)›)))&&nodup (refsOf (flat2 (lss ‹List (Bool×List Lf)›))))=true:=by
       simp only[Bool.and_eq_true,Bool.or_eq_true]at hr⊢
       exact⟨hr.1.imp_right (ownLs_mono s.hp),hr.2⟩
      rw[hr']
      exact h
     ·exact no h
    ·exact no h
   ·exact no h
  ·exact no h
 |makeFunc fn first captured=>
  cases fn with
  |func f=>
   unfold opD at h⊢
   rw[hop]at h⊢
   dsimp only at h⊢
   cases h1:avs σ first.toList with
   |none=>rw[h1]at h;exact no h
   |some x=>
    cases h2:avs σ captured.toList with
    |none=>
     rw[h1,h2]at h
     split at h
     ·rename_i e;exact no e
     ·rename_i e;exact no e
     ·rename_i e;exact no e
     ·exact no h
    |some y=>
     rw[h1,h2]at h
     rw[avs_mono s h1,avs_mono s h2]
     exact h
  |_=>simp[opD,hop]at h
 |_=>simp[opD,hop]at h
end
section
variable {α:Type} {P:Program} {E:Env} {F:Fr} {c:Cc} {w:World} {R:Cls} {σ:St} {a:Act} {z:α}
def KOk (F:Fr)(K:St→Option α)(z:α)(N:Act→World→Prop):Prop:=∀σ c w R a,Rel F c w R σ a→K σ=some z→N a w
theorem Rel.say (h:Rel F c w R σ a){t:Nat}{av:AV}(hv:∀v,a.tmps[t]? =some v→av.rel c w R σ.heap v)(ht:∃v,a.tmps[t]? =some v):Rel F c w R ⟨(t,av)::σ.tmps,σ.heap⟩ a:=by
 refine{h with tm:= ?_}
 intro s av' hl
 rw[look_cons]at hl
 by_cases e:s=t
 ·rw[if_pos e]at hl
  cases hl
  subst e
  obtain⟨v,hv'⟩:=ht
  exact⟨v,hv',hv v hv'⟩
 ·rw[if_neg e]at hl
  exact h.tm s av' hl
theorem both_some {x y:Option α}(h:both x y=some z):x=some z∧y=some z:=by
 unfold both at h
 split at h
 ·rename_i e
  exact⟨h,e▸h⟩
 ·exact no h
theorem split_run {x:Operand}{yes no':St→Option α}(h:Rel F c w R σ a)(hs:split σ x yes no'=some z):
 ∃b τ,a.eval x= .bool b∧Rel F c w R τ a∧(match b with|true=>yes τ|false=>no' τ)=some z:=by
 unfold split at hs
 split at hs
 ·rename_i b hx
  have hv:a.eval x= .bool b:=V1.one (eval_rel h hx)
  cases x with
  |tmp t=>
   dsimp only at hs
   obtain⟨v,hv1,hv2⟩:=h.tm t _ hx
   have hv2:v= .bool b:=V1.one hv2
   refine⟨b,⟨(t,vbool b)::σ.tmps,σ.heap⟩,hv,h.say (fun v' hv'=> ?_) ⟨v,hv1⟩,?_⟩
   ·rw[hv1]at hv'
    cases hv'
    exact⟨_,rfl,hv2⟩
   ·cases b<;>exact hs
  |const v=>refine⟨b,σ,hv,h,?_⟩;cases b<;>exact hs
  |global g=>refine⟨b,σ,hv,h,?_⟩;cases b<;>exact hs
  |func f=>refine⟨b,σ,hv,h,?_⟩;cases b<;>exact hs
 ·rename_i hx
  cases x with
  |tmp t=>
   dsimp only at hs
   obtain⟨v,hv1,b,rfl⟩:=h.tm t _ hx
   obtain⟨h1,h2⟩:=both_some hs
   refine⟨b,⟨(t,vbool b)::σ.tmps,σ.heap⟩,by simp[Act.eval,Array.getD_eq_getD_getElem?,hv1],h.say (fun v' hv'=> ?_) ⟨_,hv1⟩,?_⟩
   ·rw[hv1]at hv'
    cases hv'
    exact⟨_,rfl,rfl⟩
   ·cases b
    ·exact h2
    ·exact h1
  |const v=>exact no hs
  |global g=>exact no hs
  |func f=>exact no hs
 ·exact no hs
theorem yielded_bool {ops:Array Oper}{tmps:Array Value}{j t:Nat}{b:Bool}(ht:(ops[j]?).bind (·.dst)=some t)(h:tmps[t]? =some (.bool b)):yielded ops tmps j=some b:=by
 simp[yielded,ht,h]
theorem yielded_undef {ops:Array Oper}{tmps:Array Value}{j t:Nat}(ht:(ops[j]?).bind (·.dst)=some t)(h:tmps[t]? =some Go.undef):yielded ops tmps j=none:=by
 simp[yielded,ht,h,Go.undef]
theorem apply_rel {d:D}{o:Oper}{v:Value}{w':World}(hd:dstOk F.nt o.dst=true)(h:Post F σ a d v w'):∃c' R',Rel F c' w' R' (σ.apply o.dst d) (a.put o.dst v):=by
 obtain⟨c',R',h1,h2⟩:=h
 exact⟨c',R',Rel.put (σ:=⟨σ.tmps,newH σ d⟩) h1 hd fun _=>h2⟩
theorem skip_rel {o:Oper}(h:Rel F c w R σ a)(hd:dstOk F.nt o.dst=true):Rel F c w R ⟨σ.put o.dst .undef,σ.heap⟩ (a.put o.dst Go.undef):=
 Rel.put h hd fun _=>rfl
theorem op_step (hE:EnvOk P E)(hF:∀n z,look F.io n=some z→n<1000){rid:Nat}{ops:Array Oper}{K:St→Option α}{Q:Exit→Act→World→Prop}{o:Oper}{r:List Oper}{i:Nat}{N:Act→World→Prop}(ho:ops[i]? =some o)
 (ih:KOk F (fun σ=>runOps E F.nt rid ops r (i+1) σ K) z N) (h:Rel F c w R σ a) (hz:runOps E F.nt rid ops (o::r) i σ K=some z):wpOp P ops Q i N a w:=by
 simp only[wpOp,ho]
 have hgo:∀σ,Rel F c w R σ a→(opD E σ ((rid+1)*1000+i) o fun d=>match dOk σ d&&dstOk F.nt o.dst with|true=>runOps E F.nt rid ops r (i+1) (σ.apply o.dst d) K|false=>none)=some z→
  o.wp P a w N Q:=by
  intro σ h hz
  rw[opD_bind]at hz
  obtain⟨d,hd,hz⟩:=Option.bind_eq_some_iff.1 hz
  split at hz
  ·rename_i hg
   simp only[Bool.and_eq_true]at hg
   refine op_ok hE h hd hg.1 hF (by omega) _ _ fun v w' hp=> ?_
   obtain⟨c',R',hrel⟩:=apply_rel hg.2 hp
   exact ih _ c' w' R' _ hrel hz
  ·exact no hz
 have hskip:∀σ,Rel F c w R σ a→(match dstOk F.nt o.dst with|true=>runOps E F.nt rid ops r (i+1) ⟨σ.put o.dst .undef,σ.heap⟩ K|false=>none)=some z→N (a.put o.dst Go.undef) w:=by
  intro σ h hz
  split at hz
  ·rename_i hg
   exact ih _ c w R _ (skip_rel h hg) hz
  ·exact no hz
 unfold runOps at hz
 dsimp only at hz
 split at hz
 ·rename_i hgd
  simp only[Region.wanted,hgd,if_true]
  exact .inl (hgo σ h hz)
 ·rename_i j want hgd
  split at hz
  ·exact no hz
  ·rename_i t ht
   split at hz
   ·rename_i hu
    obtain⟨v,hv1,hv2⟩:=h.tm t _ hu
    have hv2:v=Go.undef:=hv2
    subst hv2
    simp only[Region.wanted,hgd,yielded_undef ht hv1]
    exact hskip σ h hz
   ·rename_i av hund hav
    obtain⟨b,τ,hb,hτ,hz⟩:=split_run h hz
    obtain⟨v,hv1,_⟩:=h.tm t _ hav
    have:a.eval (.tmp t)=v:=by simp[Act.eval,Array.getD_eq_getD_getElem?,hv1]
    rw[this]at hb
    subst hb
    simp only[Region.wanted,hgd,yielded_bool ht hv1]
    cases b<;>cases want<;>dsimp only at hz<;>first
     |(simp only[beq_self_eq_true,if_true];exact .inl (hgo τ hτ hz))
     |exact hskip τ hτ hz
   ·exact no hz
theorem ops_ok (hE:EnvOk P E)(hF:∀n z,look F.io n=some z→n<1000){rid:Nat}{ops:Array Oper}{K:St→Option α}{Q:Exit→Act→World→Prop}(hK:KOk F K z (Q .normal)):
 ∀(l:List Oper) (i:Nat) (c:Cc) (w:World) (R:Cls) (σ:St) (a:Act),(∀j,l[j]? =ops[i+j]?)→Rel F c w R σ a→runOps E F.nt rid ops l i σ K=some z→wpOps P ops Q (List.range' i l.length) a w
 |[],i,c,w,R,σ,a,hl,h,hz=>hK σ c w R a h hz
 |o::r,i,c,w,R,σ,a,hl,h,hz=>by
  have ho:ops[i]? =some o:=by have:=hl 0;simpa using this.symm
  have hr:∀j,r[j]? =ops[i+1+j]? :=fun j=>by
   have:=hl (j+1)
   rw[show i+1+j=i+(j+1) by omega]
   simpa using this
  rw[List.length_cons,List.range'_succ,wpOps_cons]
  exact op_step hE hF ho (fun σ c w R a h hz=>ops_ok hE hF hK r (i+1) c w R σ a hr h hz) h hz
theorem region_ok (hE:EnvOk P E)(hF:∀n z,look F.io n=some z→n<1000){rid:Nat}{ops:Array Oper}{K:St→Option α}{Q:Exit→Act→World→Prop}(hK:KOk F K z (Q .normal))
 (h:Rel F c w R σ a) (hz:runOps E F.nt rid ops ops.toList 0 σ K=some z):(Code.region rid ops false).wp P Q a w:=by
 refine wp_region ?_
 have:=ops_ok (P:=P) (Q:=Q) hE hF hK ops.toList 0 c w R σ a (fun j=>by simp) h hz
 rw[List.range_eq_range']
 simpa using this
end
section
variable {α:Type} {P:Program} {E:Env} {F:Fr} {c:Cc} {w:World} {R:Cls} {σ τ:St} {a:Act} {z:α}
theorem Lf.rel_less {H H':Hp}(s:SubH H' H){l:Lf}{v:Value}(h:l.rel c w R H v):l.rel c w R H' v:=
 Lf.rel_keep (fun _ _=>rfl) (fun _ h=>h) l v (fun n e' _ he=>⟨s n e' he,rfl,fun _ _ _=>rfl⟩) h
theorem Rel.less (s:Sub τ σ)(h:Rel F c w R σ a):Rel F c w R τ a:=by
 refine{h with tm:= ?_,hp:= ?_,nd:= ?_,dj:= ?_,nr:= ?_,io:= ?_,kc:=fun p v hp ls hl=>h.kc p v hp ls (s.hp _ _ hl)}
 ·intro t av hl
  obtain⟨v,h1,h2⟩:=h.tm t av (s.tm t av hl)
  exact⟨v,h1,AV.rel_imp (fun l v _ hq=>Lf.rel_less s.hp hq) h2⟩
 ·intro n e he
  have h1:=h.hp n e (s.hp n e he)
  cases e with
  |box ls=>
   obtain⟨b,vs,e,h2,h3,h4,h5⟩:=h1
   exact⟨b,vs,e,h2,h3,h4,All2.mono (fun l v hq=>Lf.rel_less s.hp hq) h5⟩
  |row T d xs=>cases d<;>exact h1
 ·exact fun n e he=>h.nd n e (s.hp n e he)
 ·exact fun n e m e' hne he hm=>h.dj n e m e' hne (s.hp n e he) (s.hp m e' hm)
 ·exact fun n e he=>h.nr n e (s.hp n e he)
 ·intro p v hp
  obtain⟨h1,h2⟩:=h.io p v hp
  exact⟨Lf.rel_less s.hp h1,Lf.rel_less s.hp h2⟩
theorem Rel.drew (h:Rel F c w R σ a):Rel F c {w with drawn:=w.drawn+1} R σ a:=by
 have hR:∀b,R b→({w with drawn:=w.drawn+1}:World).heap[b]? =w.heap[b]? :=fun _ _=>rfl
 have hl:∀(l:Lf) (v:Value),l.rel c w R σ.heap v→l.rel c {w with drawn:=w.drawn+1} R σ.heap v:=
  fun l v hq=>Lf.rel_keep hR (fun _ h=>h) l v (fun n e' _ he=>⟨he,rfl,fun _ _ _=>rfl⟩) hq
 refine{h with tm:= ?_,hp:= ?_,io:= ?_,rl:=h.rl,sz:=h.sz,fr:=h.fr,sh:= ?_,os:=h.os,out:=h.out,tape:=h.tape,kc:=h.kc}
 ·intro t av hl'
  obtain⟨v,h1,h2⟩:=h.tm t av hl'
  exact⟨v,h1,AV.rel_imp (fun l v _ hq=>hl l v hq) h2⟩
 ·intro n e he
  have h1:=h.hp n e he
  cases e with
  |box ls=>
   obtain⟨b,vs,e,h2,h3,h4,h5⟩:=h1
   exact⟨b,vs,e,h2,h3,h4,All2.mono hl h5⟩
  |row T d xs=>
   cases d with
   |true=>
    simp only[Ent.rel]at h1⊢
    cases hz:c.at_ n with
    |none=>rw[hz]at h1;exact h1
    |some q=>
     rw[hz]at h1
     obtain⟨fr,h2,h3,h4⟩:=h1
     refine⟨fr,h2,h3.same rfl,?_⟩
     exact rowOwn_mono (Q:=fun x o fp=>ETy.own w T x q.1 o fp) (fun x o f _ hq=>ETy.own_same (w:=w) (w':={w with drawn:=w.drawn+1}) T x q.1 o f rfl (fun _ _=>rfl) hq) h4
   |false=>
    simp only[Ent.rel]at h1⊢
    cases hz:c.at_ n with
    |none=>rw[hz]at h1;exact h1
    |some q=>
     rw[hz]at h1
     obtain⟨h2,h3,h4⟩:=h1
     exact⟨h2,h3.same rfl,rowRo_same hR (fun _ h=>h) rfl h4⟩
 ·exact fun b n hb=>(h.sh b n hb).same rfl
 ·intro p v hp
  obtain⟨h1,h2⟩:=h.io p v hp
  exact⟨hl _ v h1,hl _ v h2⟩
theorem sayNone_spec {av:AV}{H:Hp}:∀{ns:List Nat},sayNone av H ns=true→∀n∈ns,av.says n=false∧heapSay n H=false
 |[],_,n,hn=>by cases hn
 |m::ns,h,n,hn=>by
  simp only[sayNone,Bool.and_eq_true,Bool.not_eq_true']at h
  rcases List.mem_cons.1 hn with rfl|hn
  ·exact h.1
  ·exact sayNone_spec h.2 n hn
theorem heapSay_key {n:Nat}{H:Hp}(h:heapSay n H=false):look H n=none:=(heapSay_look h).1
theorem dstNe_spec {x y:Option Nat}(h:dstNe x y=true):∀d,x=some d→y≠some d:=by
 intro d hx hy
 subst hx;subst hy
 simp[dstNe]at h
def Chain (B:Nat→Nat→Bool):Ac→Prop
 |[]=>True
 |(i,dst,av,adds)::r=>acOk (B i) i dst av adds r=true∧nodup (keys adds)=true∧Chain B r
structure Base (σ:St)(acc:Ac):Prop where
 dst:∀x∈acc,∀d,x.2.1=some d→look σ.tmps d=none
 new:∀x∈acc,∀n∈keys x.2.2.2,σ.fresh n=true
theorem Base.tail {x:Nat×Option Nat×AV×Hp}{acc:Ac}(h:Base σ (x::acc)):Base σ acc:=
 ⟨fun y hy=>h.dst y (by simp[hy]),fun y hy=>h.new y (by simp[hy])⟩
theorem acOk_mem {b:Nat→Bool}{i:Nat}{dst:Option Nat}{av:AV}{adds:Hp}:∀{acc:Ac},acOk b i dst av adds acc=true→∀x∈acc,
 dstNe dst x.2.1=true∧i≠x.1∧sayNone x.2.2.1 x.2.2.2 (keys adds)=true∧(b x.1=true∨sayNone av adds (keys x.2.2.2)=true)
 |[],_,x,hx=>by cases hx
 |(j,dst',av',adds')::r,h,x,hx=>by
  simp only[acOk,Bool.and_eq_true,Bool.or_eq_true,Bool.not_eq_true']at h
  obtain⟨⟨⟨⟨h1,h2⟩,h3⟩,h4⟩,h5⟩:=h
  rcases List.mem_cons.1 hx with rfl|hx
  ·refine⟨h1,fun e=> ?_,h3,h4⟩
   subst e
   simp at h2
  ·exact acOk_mem h5 x hx
theorem look_put_ne {σ:St}{dst:Option Nat}{av:AV}{t:Nat}(h:dst≠some t):look (σ.put dst av) t=look σ.tmps t:=by
 cases dst with
 |none=>rfl
 |some d=>
  have:t≠d:=fun e=>h (e▸rfl)
  simp[St.put,look_cons,this]
theorem look_put_eq {σ:St}{av:AV}{t:Nat}:look (σ.put (some t) av) t=some av:=by simp[St.put,look_cons]
theorem minSt_tm_none {b:Nat→Bool}{t:Nat}:∀{acc:Ac},(∀x∈acc,x.2.1≠some t)→look σ.tmps t=none→look (minSt σ b acc).tmps t=none
 |[],_,h=>h
 |(j,dst,av,adds)::r,hx,h=>by
  have ih:=minSt_tm_none (b:=b) (acc:=r) (fun x hx'=>hx x (by simp[hx'])) h
  unfold minSt
  cases b j with
  |false=>exact ih
  |true=>exact(look_put_ne (hx (j,dst,av,adds) (by simp))).trans ih
theorem minSt_hp_none {b:Nat→Bool}{n:Nat}:∀{acc:Ac},(∀x∈acc,look x.2.2.2 n=none)→look σ.heap n=none→look (minSt σ b acc).heap n=none
 |[],_,h=>h
 |(j,dst,av,adds)::r,hx,h=>by
  have ih:=minSt_hp_none (b:=b) (acc:=r) (fun x hx'=>hx x (by simp[hx'])) h
  unfold minSt
  cases b j with
  |false=>exact ih
  |true=>
   show look (adds++(minSt σ b r).heap) n=none
   rw[look_append,hx (j,dst,av,adds) (by simp)]
   exact ih
theorem Chain.head_dst {B:Nat→Nat→Bool}{i:Nat}{dst:Option Nat}{av:AV}{adds:Hp}{r:Ac}(h:Chain B ((i,dst,av,adds)::r)){d:Nat}(hd:dst=some d):∀x∈r,x.2.1≠some d:=
 fun x hx=>dstNe_spec (acOk_mem h.1 x hx).1 d hd
theorem Chain.head_keys {B:Nat→Nat→Bool}{i:Nat}{dst:Option Nat}{av:AV}{adds:Hp}{r:Ac}(h:Chain B ((i,dst,av,adds)::r)){n:Nat}(hn:n∈keys adds):∀x∈r,look x.2.2.2 n=none:=
 fun x hx=>heapSay_key (sayNone_spec (acOk_mem h.1 x hx).2.2.1 n hn).2
theorem minSt_sub {B:Nat→Nat→Bool}{b b':Nat→Bool}:∀{acc:Ac},Chain B acc→Base σ acc→(∀x∈acc,b x.1=true→b' x.1=true)→Sub (minSt σ b acc) (minSt σ b' acc)
 |[],_,_,_=>⟨fun _ _ h=>h,fun _ _ h=>h⟩
 |(j,dst,av,adds)::r,hc,hb,hbb=>by
  have ih:=minSt_sub (b:=b) (b':=b') hc.2.2 hb.tail (fun x hx=>hbb x (by simp[hx]))
  have hj:=hbb (j,dst,av,adds) (by simp)
  unfold minSt
  cases h1:b j with
  |true=>
   rw[hj h1]
   refine⟨fun t av' hl=> ?_,fun n e hl=> ?_⟩
   ·by_cases e:dst=some t
    ·subst e
     have hl:look ((minSt σ b r).put (some t) av) t=some av':=hl
     show look ((minSt σ b' r).put (some t) av) t=some av'
     rw[look_put_eq]at hl⊢
     exact hl
    ·have hl:look ((minSt σ b r).put dst av) t=some av':=hl
     show look ((minSt σ b' r).put dst av) t=some av'
     rw[look_put_ne e]at hl⊢
     exact ih.tm t av' hl
   ·have hl:look (adds++(minSt σ b r).heap) n=some e:=hl
    show look (adds++(minSt σ b' r).heap) n=some e
    rw[look_append]at hl⊢
    cases hx:look adds n with
    |some y=>rw[hx]at hl;exact hl
    |none=>rw[hx]at hl;exact ih.hp n e hl
  |false=>
   cases h2:b' j with
   |false=>exact ih
   |true=>
    refine⟨fun t av' hl=> ?_,fun n e hl=> ?_⟩
    ·have hl:=hl
     show look ((minSt σ b' r).put dst av) t=some av'
     by_cases e:dst=some t
     ·have:=minSt_tm_none (σ:=σ) (b:=b) (hc.head_dst e) (hb.dst (j,dst,av,adds) (by simp) t e)
      dsimp only at hl
      rw[this]at hl
      exact no hl
     ·rw[look_put_ne e]
      exact ih.tm t av' hl
    ·have hl:=hl
     show look (adds++(minSt σ b' r).heap) n=some e
     rw[look_append]
     cases hx:look adds n with
     |none=>exact ih.hp n e hl
     |some y=>
      have hk:n∈keys adds:=(keys_look adds n).2 ⟨y,hx⟩
      have:=minSt_hp_none (σ:=σ) (b:=b) (hc.head_keys hk) (St.fresh_spec (hb.new (j,dst,av,adds) (by simp) n hk)).1
      dsimp only at hl
      rw[this]at hl
      exact no hl
theorem minSt_same {b b':Nat→Bool}:∀{acc:Ac},(∀x∈acc,b x.1=b' x.1)→minSt σ b acc=minSt σ b' acc
 |[],_=>rfl
 |(j,dst,av,adds)::r,h=>by
  unfold minSt
  rw[h (j,dst,av,adds) (by simp),minSt_same (acc:=r) fun x hx=>h x (by simp[hx])]
theorem minSt_add {B:Nat→Nat→Bool}{b b':Nat→Bool}{i:Nat}{dst:Option Nat}{av:AV}{adds:Hp}:∀{acc:Ac},Chain B acc→(i,dst,av,adds)∈acc→b i=false→b' i=true→(∀j,j≠i→b' j=b j)→
 Sub (minSt σ b' acc) (addE (minSt σ b acc) dst av adds)
 |[],_,hm,_,_,_=>by cases hm
 |(j,dst',av',adds')::r,hc,hm,h1,h2,h3=>by
  rcases List.mem_cons.1 hm with he|hm
  ·cases he
   have:minSt σ b' r=minSt σ b r:=minSt_same fun x hx=>h3 x.1 fun e=>(acOk_mem hc.1 x hx).2.1 e.symm
   unfold minSt
   rw[h1,h2,this]
   exact⟨fun _ _ h=>h,fun _ _ h=>h⟩
  ·have hji:j≠i:=(acOk_mem hc.1 _ hm).2.1
   have ih:=minSt_add hc.2.2 hm h1 h2 h3
   unfold minSt
   rw[h3 j hji]
   cases hj:b j with
   |false=>exact ih
   |true=>
    have hd:=dstNe_spec (acOk_mem hc.1 _ hm).1
    refine⟨fun t x hl=> ?_,fun n e hl=> ?_⟩
    ·have hl:look ((minSt σ b' r).put dst' av') t=some x:=hl
     show look ((addE (minSt σ b r) dst' av' adds').put dst av) t=some x
     by_cases e1:dst'=some t
     ·rw[look_put_ne (hd t e1)]
      show look ((minSt σ b r).put dst' av') t=some x
      rw[e1]at hl⊢
      rw[look_put_eq]at hl⊢
      exact hl
     ·rw[look_put_ne e1]at hl
      have:=ih.tm t x hl
      have this:look ((minSt σ b r).put dst av) t=some x:=this
      by_cases e2:dst=some t
      ·rw[e2]at this⊢
       rw[look_put_eq]at this⊢
       exact this
      ·rw[look_put_ne e2]at this⊢
       show look ((minSt σ b r).put dst' av') t=some x
       rw[look_put_ne e1]
       exact this
    ·have hl:look (adds'++(minSt σ b' r).heap) n=some e:=hl
     show look (adds++(adds'++(minSt σ b r).heap)) n=some e
     rw[look_append]at hl
     rw[look_append,look_append]
     cases hx:look adds' n with
     |some y=>
      rw[hx]at hl
      have:=hc.head_keys ((keys_look adds' n).2 ⟨y,hx⟩) _ hm
      dsimp only at this
      rw[this]
      exact hl
     |none=>
      rw[hx]at hl
      have:=ih.hp n e hl
      have this:look (adds++(minSt σ b r).heap) n=some e:=this
      rw[look_append]at this
      exact this
theorem minSt_fresh {b:Nat→Bool}{n:Nat}(h:σ.fresh n=true):∀{acc:Ac},(∀x∈acc,b x.1=true→x.2.2.1.says n=false∧heapSay n x.2.2.2=false)→(minSt σ b acc).fresh n=true
 |[],_=>h
 |(j,dst,av,adds)::r,hx=>by
  have ih:=minSt_fresh h (b:=b) (acc:=r) fun x hx'=>hx x (by simp[hx'])
  unfold minSt
  cases hb:b j with
  |false=>exact ih
  |true=>
   obtain⟨h1,h2⟩:=hx (j,dst,av,adds) (by simp) hb
   simp only[St.fresh,Bool.and_eq_true,Bool.not_eq_true']at ih⊢
   dsimp only at h1 h2
   refine⟨?_,?_⟩
   ·cases dst with
    |none=>exact ih.1
    |some d=>
     show((av.says n)||tmpsSay n (minSt σ b r).tmps)=false
     rw[h1,ih.1]
     rfl
   ·show heapSay n (adds++(minSt σ b r).heap)=false
    have key:∀(L:Hp),heapSay n L=false→heapSay n (L++(minSt σ b r).heap)=false:=by
     intro L
     induction L with
     |nil=>exact fun _=>ih.2
     |cons y L ihL=>
      obtain⟨m,e⟩:=y
      intro hL
      rw[List.cons_append]
      simp only[heapSay,Bool.or_eq_false_iff]at hL⊢
      exact⟨hL.1,ihL hL.2⟩
    exact key adds h2
end
def GuardIs (ops:Array Oper)(σ:St)(o:Oper)(go:Bool):Prop:=
 (o.guard=none∧go=true)∨∃j want t,o.guard=some (j,want)∧(ops[j]?).bind (·.dst)=some t∧
  ((look σ.tmps t=some .undef∧go=false)∨∃b,look σ.tmps t=some (vbool b)∧go=(b==want))
abbrev BB (bits:List Nat)(i j:Nat):Bool:=Nat.testBit (bits.getD i 0) j
def EntOk (E:Env)(nt rid:Nat)(ops:Array Oper)(bits:List Nat)(σ:St)(acc:Ac)(x:Nat×Option Nat×AV×Hp):Prop:=
 ∃o,ops[x.1]? =some o∧o.dst=x.2.1∧dstOk nt o.dst=true∧
  ((GuardIs ops (minSt σ (BB bits x.1) acc) o true∧∃d,opD E (minSt σ (BB bits x.1) acc) ((rid+1)*1000+x.1) o some=some d∧d.av=x.2.2.1∧d.adds=x.2.2.2∧d.dels=[]∧d.sets=[])
    ∨(GuardIs ops (minSt σ (BB bits x.1) acc) o false∧x.2.2.1= .undef∧x.2.2.2=[]))
section
variable {α:Type} {E:Env} {σ τ:St} {z:α}
theorem minSt_skip {b:Nat→Bool}{acc:Ac}:∀{new:Ac},(∀x∈new,b x.1=false)→minSt σ b (new++acc)=minSt σ b acc
 |[],_=>rfl
 |(j,dst,av,adds)::r,h=>by
  have hj:b j=false:=h (j,dst,av,adds) (by simp)
  show(match b j with|true=>addE (minSt σ b (r++acc)) dst av adds|false=>minSt σ b (r++acc))=minSt σ b acc
  rw[hj]
  exact minSt_skip fun x hx=>h x (List.mem_cons_of_mem _ hx)
theorem setB_id {B:Nat→Nat→Bool}{b:Nat→Bool}{t:Nat}{q:Bool}:∀{acc:Ac},Chain B acc→(∀x∈acc,∀d,x.2.1=some d→look σ.tmps d=none)→look (minSt σ b acc).tmps t=some (vbool q)→setB t q acc=acc
 |[],_,_,_=>rfl
 |(j,dst,av,adds)::r,hc,hb,hl=>by
  unfold setB
  unfold minSt at hl
  have ih:look (minSt σ b r).tmps t=some (vbool q)→setB t q r=r:=setB_id hc.2.2 fun x hx=>hb x (by simp[hx])
  cases dst with
  |none=>
   dsimp only
   rw[ih]
   cases hj:b j<;>rw[hj]at hl<;>exact hl
  |some d=>
   dsimp only
   by_cases e:d=t
   ·subst e
    simp only[Nat.beq_refl]
    cases hj:b j with
    |true=>
     rw[hj]at hl
     have hl:look ((minSt σ b r).put (some d) av) d=some (vbool q):=hl
     rw[look_put_eq]at hl
     cases hl
     rfl
    |false=>
     rw[hj]at hl
     have hl:look (minSt σ b r).tmps d=some (vbool q):=hl
     rw[minSt_tm_none (hc.head_dst rfl) (hb (j,some d,av,adds) (by simp) d rfl)]at hl
     exact no hl
   ·have hbe:Nat.beq d t=false:=by
     cases h:Nat.beq d t with
     |true=>exact absurd (Nat.eq_of_beq_eq_true h) e
     |false=>rfl
    rw[hbe]
    dsimp only
    rw[ih]
    cases hj:b j with
    |false=>rw[hj]at hl;exact hl
    |true=>
     rw[hj]at hl
     have hl:look ((minSt σ b r).put (some d) av) t=some (vbool q):=hl
     rw[look_put_ne (by intro h;cases h;exact e rfl)]at hl
     exact hl
theorem any_spec {nt rid:Nat}{ops:Array Oper}{M:List Nat}{bits:List Nat}{K:Ac→Option α}(hbits:∀i j,BB bits i j=true→j<i):
 ∀(l:List Oper) (i:Nat) (acc:Ac),(∀j o,l[j]? =some o→ops[i+j]? =some o)→(∀k o,l[k]? =some o→mem M (i+k)=false→∀d,o.dst=some d→look σ.tmps d=none)→Chain (BB bits) acc→Base σ acc→(∀x∈acc,x.1<i∧mem M x.1=false∧EntOk E nt rid ops bits σ acc x)→(∀j,j<i→mem M j=false→∃x∈acc,x.1=j)→
  runAny E nt rid ops M bits σ l i acc K=some z→
  ∃acc',Chain (BB bits) acc'∧Base σ acc'∧(∀x∈acc',x.1<i+l.length∧mem M x.1=false∧EntOk E nt rid ops bits σ acc' x)∧(∀j,j<i+l.length→mem M j=false→∃x∈acc',x.1=j)∧K acc'=some z
 |[],i,acc,hl,hds,hc,hb,hx,hi,hz=>⟨acc,hc,hb,hx,hi,hz⟩
 |o::r,i,acc,hl,hds,hc,hb,hx,hi,hz=>by
  have ho:ops[i]? =some o:=by have:=hl 0 o rfl;simpa using this
  have hr:∀j o',r[j]? =some o'→ops[i+1+j]? =some o':=fun j o' hj=>by
   have:=hl (j+1) o' (by simpa using hj)
   rw[show i+1+j=i+(j+1) by omega]
   exact this
  have hds':∀k o,r[k]? =some o→mem M (i+1+k)=false→∀d,o.dst=some d→look σ.tmps d=none:=fun k o ho hm=>hds (k+1) o (by simpa using ho) (by rw[show i+(k+1)=i+1+k by omega];exact hm)
  have hlen:i+(o::r).length=i+1+r.length:=by simp;omega
  rw[hlen]
  unfold runAny at hz
  dsimp only at hz
  cases hmi:mem M i with
  |true=>
   rw[hmi]at hz
   refine any_spec hbits r (i+1) acc hr hds' hc hb (fun x h=>⟨by have:=(hx x h).1;omega,(hx x h).2⟩) (fun j hj hm=> ?_) hz
   by_cases e:j=i
   ·subst e
    rw[hmi]at hm
    cases hm
   ·exact hi j (by omega) hm
  |false=>
  rw[hmi]at hz
  dsimp only at hz
  have push:∀(av:AV) (adds:Hp),acOk (BB bits i) i o.dst av adds acc=true→nodup (keys adds)=true→(∀n∈keys adds,σ.fresh n=true)→
   (∃o',ops[i]? =some o'∧o'.dst=o.dst∧dstOk nt o'.dst=true∧
    ((GuardIs ops (minSt σ (BB bits i) acc) o' true∧∃d,opD E (minSt σ (BB bits i) acc) ((rid+1)*1000+i) o' some=some d∧d.av=av∧d.adds=adds∧d.dels=[]∧d.sets=[])
      ∨(GuardIs ops (minSt σ (BB bits i) acc) o' false∧av= .undef∧adds=[])))→
   runAny E nt rid ops M bits σ r (i+1) ((i,o.dst,av,adds)::acc) K=some z→
   ∃acc',Chain (BB bits) acc'∧Base σ acc'∧(∀x∈acc',x.1<i+1+r.length∧mem M x.1=false∧EntOk E nt rid ops bits σ acc' x)∧(∀j,j<i+1+r.length→mem M j=false→∃x∈acc',x.1=j)∧K acc'=some z:=by
   intro av adds hk hn hf hent hz
   refine any_spec hbits r (i+1) ((i,o.dst,av,adds)::acc) hr hds' ⟨hk,hn,hc⟩ ⟨?_,?_⟩ ?_ ?_ hz
   ·intro x hx' d hd
    rcases List.mem_cons.1 hx' with rfl|hx'
    ·exact hds 0 o rfl hmi d hd
    ·exact hb.dst x hx' d hd
   ·intro x hx' n hn'
    rcases List.mem_cons.1 hx' with rfl|hx'
    ·exact hf n hn'
    ·exact hb.new x hx' n hn'
   ·have skip:∀k,k≤i→minSt σ (BB bits k) ((i,o.dst,av,adds)::acc)=minSt σ (BB bits k) acc:=by
     intro k hk
     refine minSt_skip (new:=[(i,o.dst,av,adds)]) fun x hx'=> ?_
     simp only[List.mem_singleton]at hx'
     subst hx'
     cases h:BB bits k i with
     |false=>rfl
     |true=>have:=hbits k i h;omega
    intro x hx'
    rcases List.mem_cons.1 hx' with rfl|hx'
    ·refine⟨by dsimp only;omega,hmi,?_⟩
     unfold EntOk
     dsimp only
     rw[skip i (by omega)]
     exact hent
    ·obtain⟨h1,hmx,h2⟩:=hx x hx'
     refine⟨by omega,hmx,?_⟩
     unfold EntOk at h2⊢
     rw[skip x.1 (by omega)]
     exact h2
   ·intro j hj hm
    by_cases e:j=i
    ·exact⟨(i,o.dst,av,adds),by simp,e.symm⟩
    ·obtain⟨x,h1,h2⟩:=hi j (by omega) hm
     exact⟨x,by simp[h1],h2⟩
  have hgo:GuardIs ops (minSt σ (BB bits i) acc) o true→(opD E (minSt σ (fun j=>Nat.testBit (bits.getD i 0) j) acc) ((rid+1)*1000+i) o fun d=>
   match dstOk nt o.dst&&noNs d.dels&&noHp d.sets&&newOk σ d.adds&&nodup (keys d.adds)&&acOk (fun j=>Nat.testBit (bits.getD i 0) j) i o.dst d.av d.adds acc with
   |true=>runAny E nt rid ops M bits σ r (i+1) ((i,o.dst,d.av,d.adds)::acc) K
   |false=>none)=some z→∃acc',Chain (BB bits) acc'∧Base σ acc'∧(∀x∈acc',x.1<i+1+r.length∧mem M x.1=false∧EntOk E nt rid ops bits σ acc' x)∧(∀j,j<i+1+r.length→mem M j=false→∃x∈acc',x.1=j)∧K acc'=some z:=by
   intro hg hz
   rw[opD_bind]at hz
   obtain⟨d,hd,hz⟩:=Option.bind_eq_some_iff.1 hz
   split at hz
   ·rename_i hk
    simp only[Bool.and_eq_true]at hk
    obtain⟨⟨⟨⟨⟨k1,k2⟩,k3⟩,k4⟩,k5⟩,k6⟩:=hk
    refine push d.av d.adds k6 k5 (fun n hn=> ?_) ⟨o,ho,rfl,k1, .inl ⟨hg,d,hd,rfl,rfl,?_,?_⟩⟩ hz
    ·obtain⟨e,he⟩:=(keys_look _ n).1 hn
     exact newOk_spec k4 n e he
    ·cases h:d.dels with
     |nil=>rfl
     |cons _ _=>rw[h]at k2;cases k2
    ·cases h:d.sets with
     |nil=>rfl
     |cons _ _=>rw[h]at k3;cases k3
   ·exact no hz
  have hskip:GuardIs ops (minSt σ (BB bits i) acc) o false→(match dstOk nt o.dst&&acOk (fun j=>Nat.testBit (bits.getD i 0) j) i o.dst .undef [] acc with
   |true=>runAny E nt rid ops M bits σ r (i+1) ((i,o.dst, .undef,[])::acc) K
   |false=>none)=some z→∃acc',Chain (BB bits) acc'∧Base σ acc'∧(∀x∈acc',x.1<i+1+r.length∧mem M x.1=false∧EntOk E nt rid ops bits σ acc' x)∧(∀j,j<i+1+r.length→mem M j=false→∃x∈acc',x.1=j)∧K acc'=some z:=by
   intro hg hz
   split at hz
   ·rename_i hk
    simp only[Bool.and_eq_true]at hk
    exact push .undef [] hk.2 rfl (fun n hn=>by cases hn) ⟨o,ho,rfl,hk.1, .inr ⟨hg,rfl,rfl⟩⟩ hz
   ·exact no hz
  split at hz
  ·rename_i hgd
   exact hgo (.inl ⟨hgd,rfl⟩) hz
  ·rename_i j want hgd
   split at hz
   ·exact no hz
   ·rename_i t ht
    split at hz
    ·rename_i hu
     exact hskip (.inr ⟨j,want,t,hgd,ht, .inl ⟨hu,rfl⟩⟩) hz
    ·rename_i q hq
     have hset:setB t q acc=acc:=setB_id hc hb.dst hq
     cases q with
     |true=>
      simp only[cond_true,hset]at hz
      cases want with
      |true=>exact hgo (.inr ⟨j,true,t,hgd,ht, .inr ⟨true,hq,rfl⟩⟩) hz
      |false=>exact hskip (.inr ⟨j,false,t,hgd,ht, .inr ⟨true,hq,rfl⟩⟩) hz
     |false=>
      simp only[cond_false,hset]at hz
      cases want with
      |true=>exact hskip (.inr ⟨j,true,t,hgd,ht, .inr ⟨false,hq,rfl⟩⟩) hz
      |false=>exact hgo (.inr ⟨j,false,t,hgd,ht, .inr ⟨false,hq,rfl⟩⟩) hz
    ·exact no hz
end
theorem bitsOfOp_spec {bits:List Nat}{o:Oper}{j:Nat}(h:Nat.testBit (bitsOfOp bits o) j=true):∃e∈o.after.toList,Region.binds .any e=true∧(e.on=j∨Nat.testBit (bits.getD e.on 0) j=true):=by
 have key:∀(es:List Edge) (s:Nat),Nat.testBit (es.foldl (fun s e=>match Region.binds .any e with|true=>s|||2^e.on|||bits.getD e.on 0|false=>s) s) j=true→
  Nat.testBit s j=true∨∃e∈es,Region.binds .any e=true∧(e.on=j∨Nat.testBit (bits.getD e.on 0) j=true):=by
  intro es
  induction es with
  |nil=>exact fun s h=> .inl h
  |cons e es ih=>
   intro s h
   rw[List.foldl_cons]at h
   rcases ih _ h with h|⟨e',h1,h2⟩
   ·cases hb:Region.binds .any e with
    |false=>rw[hb]at h;exact .inl h
    |true=>
     rw[hb]at h
     simp only[Nat.testBit_or,Nat.testBit_two_pow,Bool.or_eq_true,decide_eq_true_eq]at h
     rcases h with(h|h)|h
     ·exact .inl h
     ·exact .inr ⟨e,by simp,hb, .inl h⟩
     ·exact .inr ⟨e,by simp,hb, .inr h⟩
   ·exact .inr ⟨e',by simp[h1],h2⟩
 rcases key o.after.toList 0 h with h|h
 ·simp at h
 ·exact h
theorem getD_app {l m:List Nat}{i:Nat}(h:i<l.length):(l++m).getD i 0=l.getD i 0:=by
 rw[List.getD_eq_getElem?_getD,List.getElem?_append_left h,←List.getD_eq_getElem?_getD]
theorem allBits_spec :∀(l:List Oper) (done:List Oper) (bits:List Nat),bits.length=done.length→(∀i o,done[i]? =some o→∀j,Nat.testBit (bits.getD i 0) j=true→∃e∈o.after.toList,Region.binds .any e=true∧e.on<i∧(e.on=j∨Nat.testBit (bits.getD e.on 0) j=true))→
 (∀i o,l[i]? =some o→∀e∈o.after.toList,Region.binds .any e=true→e.on<done.length+i)→
 (allBits bits l).length=(done++l).length∧(∀i o,(done++l)[i]? =some o→∀j,Nat.testBit ((allBits bits l).getD i 0) j=true→∃e∈o.after.toList,Region.binds .any e=true∧e.on<i∧(e.on=j∨Nat.testBit ((allBits bits l).getD e.on 0) j=true))
 |[],done,bits,hl,h,_=>by
  simp only[allBits,List.append_nil]
  exact⟨hl,h⟩
 |o::r,done,bits,hl,h,he=>by
  have e:done++o::r=(done++[o])++r:=by simp
  rw[e]
  unfold allBits
  refine allBits_spec r (done++[o]) (bits++[bitsOfOp bits o]) (by simp[hl]) ?_ ?_
  ·intro i o' ho j hj
   by_cases hi:i<done.length
   ·rw[List.getElem?_append_left hi]at ho
    rw[getD_app (by omega)]at hj
    obtain⟨e,h1,h2,h3,h4⟩:=h i o' ho j hj
    refine⟨e,h1,h2,h3,?_⟩
    rw[getD_app (by omega)]
    exact h4
   ·rw[List.getElem?_append_right (by omega)]at ho
    have hi':i=done.length:=by
     have:=(List.getElem?_eq_some_iff.1 ho).1
     simp at this
     omega
    subst hi'
    simp at ho
    subst ho
    rw[←hl]at hj
    simp at hj
    obtain⟨e,h1,h2,h3⟩:=bitsOfOp_spec hj
    have hlt:e.on<done.length:=he 0 o rfl e h1 h2
    refine⟨e,h1,h2,hlt,?_⟩
    rw[getD_app (by omega)]
    exact h3
  ·intro i o' ho e' h1 h2
   have:=he (i+1) o' (by simpa using ho) e' h1 h2
   simp
   omega
theorem edgesOk_spec :∀{l:List Oper} {i:Nat},edgesOk i l=true→∀k o,l[k]? =some o→∀e∈o.after.toList,Region.binds .any e=true→e.on<i+k
 |[],i,_,k,o,hk=>by simp at hk
 |o::r,i,h,k,o',hk=>by
  simp only[edgesOk,Bool.and_eq_true,List.all_eq_true,Bool.or_eq_true,Bool.not_eq_true',Nat.blt_eq]at h
  intro e he hb
  cases k with
  |zero=>
   simp at hk
   subst hk
   rcases h.1 e he with h1|h1
   ·rw[hb]at h1;cases h1
   ·omega
  |succ k=>
   have:=edgesOk_spec h.2 k o' (by simpa using hk) e he hb
   omega
theorem allB_spec {M:List Nat}{b:Nat}:∀{n:Nat},allB M b n=true→∀j,j<n→mem M j=false→Nat.testBit b j=true
 |0,_,j,hj,_=>by omega
 |n+1,h,j,hj,hm=>by
  simp only[allB,Bool.and_eq_true,Bool.or_eq_true]at h
  by_cases e:j=n
  ·subst e
   rcases h.1 with h1|h1
   ·rw[hm]at h1;cases h1
   ·exact h1
  ·exact allB_spec h.2 j (by omega) hm
theorem lateOk_spec {M bits:List Nat}{p:Nat}:∀{l:List Oper} {q:Nat},lateOk M bits p q l=true→∀k,k<l.length→p≤q+k→allB M (bits.getD (q+k) 0) (q+k)=true
 |[],q,_,k,hk,_=>by simp at hk
 |o::r,q,h,k,hk,hp=>by
  simp only[lateOk,Bool.and_eq_true,Bool.or_eq_true,Nat.blt_eq]at h
  cases k with
  |zero=>
   rcases h.1 with h1|h1
   ·omega
   ·exact h1
  |succ k=>
   have:=lateOk_spec h.2 k (by simpa using hk) (by omega)
   rw[show q+(k+1)=q+1+k by omega]
   exact this
theorem allLt_spec {p:Nat}:∀{M:List Nat},allLt p M=true→∀j,mem M j=true→j<p
 |[],_,j,hj=>by cases hj
 |i::M,h,j,hj=>by
  simp only[allLt,Bool.and_eq_true,Nat.blt_eq]at h
  rcases List.mem_cons.1 ((mem_iff _ _).1 hj)with rfl|hj
  ·exact h.1
  ·exact allLt_spec h.2 j ((mem_iff _ _).2 hj)
theorem dropT_spec {ds:List Nat}:∀(l:List (Nat×AV)) (t:Nat),look (dropT ds l) t=if t∈ds then none else look l t
 |[],t=>by simp[dropT,look]
 |(s,a)::r,t=>by
  unfold dropT
  cases hm:mem ds s with
  |true=>
   have hm':=(mem_iff ds s).1 hm
   dsimp only
   rw[dropT_spec r t,look_cons]
   by_cases h:t∈ds
   ·simp[h]
   ·have:t≠s:=fun e=>h (e▸hm')
    simp[h,this]
  |false=>
   have hm':¬s∈ds:=fun h=>by rw[(mem_iff ds s).2 h]at hm;cases hm
   dsimp only
   rw[look_cons,look_cons,dropT_spec r t]
   by_cases h:t=s
   ·subst h;simp[hm']
   ·simp[h]
theorem dstsOf_mem {M:List Nat}{o:Oper}{d:Nat}(hd:o.dst=some d):∀{l:List Oper} {i k:Nat},l[k]? =some o→mem M (i+k)=false→d∈dstsOf M i l
 |q::l,i,0,h,hm=>by
  simp at h
  subst h
  unfold dstsOf
  rw[show mem M i=false from hm,hd]
  simp
 |q::l,i,k+1,h,hm=>by
  have:=dstsOf_mem (M:=M) hd (l:=l) (i:=i+1) (k:=k) (by simpa using h) (by rw[show i+1+k=i+(k+1) by omega];exact hm)
  unfold dstsOf
  cases mem M i with
  |true=>exact this
  |false=>cases q.dst<;>simp[this]
 |[],_,_,h,_=>by simp at h
theorem takes_spec {bits:List Nat}{ops:Array Oper}{p i:Nat}(h:mem (takes bits ops p) i=true):i<p∧∃o x ix,ops[i]? =some o∧o.op= .extract x ix∧o.guard=none∧Region.free .any ops (priors bits ops.size i) i=true:=by
 have h:=(mem_iff _ _).1 h
 unfold takes at h
 rw[List.mem_filter,List.mem_range]at h
 obtain⟨h1,h2⟩:=h
 refine⟨h1,?_⟩
 split at h2
 ·rename_i o ho
  split at h2
  ·rename_i x ix hop
   simp only[Bool.and_eq_true,Option.isNone_iff_eq_none]at h2
   exact⟨o,x,ix,ho,hop,h2.1,h2.2⟩
  ·cases h2
 ·cases h2
theorem takes_ge {bits:List Nat}{ops:Array Oper}{p i:Nat}(h:p≤i):mem (takes bits ops p) i=false:=by
 cases hm:mem (takes bits ops p) i with
 |false=>rfl
 |true=>have:=(takes_spec hm).1;omega
theorem priors_get {bits:List Nat}{n i j:Nat}(h:j<n):(priors bits n i).getD j true=Nat.testBit (bits.getD i 0) j:=by
 unfold priors
 simp[h]
theorem free_up {ops:Array Oper}{i:Nat}{A L:Array Bool}(hs:∀j,j<ops.size→A.getD j true=true→L.getD j true=true)(h:Region.free .any ops A i=true):Region.free .any ops L i=true:=by
 unfold Region.free at h⊢
 split at h
 ·exact h
 ·rename_i o ho
  rw[List.all_eq_true]at h⊢
  intro j hj
  have:=h j hj
  have hj':=List.mem_range.1 hj
  rw[Bool.or_assoc,Bool.or_eq_true,Bool.or_eq_true]at this
  rw[Bool.or_assoc,Bool.or_eq_true,Bool.or_eq_true]
  rcases this with h1|h1|h1
  ·exact .inl h1
  ·exact .inr (.inl (hs j hj' h1))
  ·exact .inr (.inr h1)
section
variable {α:Type} {P:Program} {E:Env} {F:Fr} {z:α}
structure Dr (P:Program)(E:Env)(F:Fr)(rid:Nat)(ops:Array Oper)(M T bits:List Nat)(p:Nat)(σ0:St)(acc:Ac):Prop where
 hE:EnvOk P E
 hF:∀n z,look F.io n=some z→n<1000
 bspec:∀i o,ops[i]? =some o→∀j,BB bits i j=true→∃e∈o.after.toList,Region.binds .any e=true∧e.on<i∧(e.on=j∨BB bits e.on j=true)
 edges:∀i o,ops[i]? =some o→∀e∈o.after.toList,Region.binds .any e=true→e.on<i
 late:∀i,i<ops.size→p≤i→∀j,j<i→mem M j=false→mem T j=false→BB bits i j=true
 tlt:∀j,mem T j=true→j<p
 sel:Region.noSelect ops=true
 mlt:∀j,mem M j=true→j<p
 le:p≤ops.size
 chain:Chain (BB bits) acc
 base:Base σ0 acc
 ent:∀x∈acc,x.1<p∧mem M x.1=false∧EntOk E F.nt rid ops bits σ0 acc x
 all:∀j,j<p→mem M j=false→∃x∈acc,x.1=j
def Closed (ops:Array Oper)(L:Array Bool):Prop:=∀(i:Nat) o,ops[i]? =some o→L.getD i false=true→∀e∈o.after.toList,Region.binds .any e=true→L.getD e.on false=true
variable {rid p:Nat} {ops:Array Oper} {M T bits:List Nat} {σ0:St} {acc:Ac} {K:St→Option α} {Q:Exit→Act→World→Prop}
theorem Dr.bits_in (D:Dr P E F rid ops M T bits p σ0 acc){L:Array Bool}(hL:Closed ops L):∀(i:Nat) o,ops[i]? =some o→(∀e∈o.after.toList,Region.binds .any e=true→L.getD e.on false=true)→∀j,BB bits i j=true→L.getD j false=true:=by
 intro i
 induction i using Nat.strongRecOn with
 |_ i ih=>
  intro o ho he j hj
  obtain⟨e,h1,h2,h3,h4⟩:=D.bspec i o ho j hj
  rcases h4 with h4|h4
  ·rw[←h4];exact he e h1 h2
  ·have hlt:i<ops.size:=(Array.getElem?_eq_some_iff.1 ho).1
   have ho':ops[e.on]? =some ops[e.on]:=Array.getElem?_eq_getElem (by omega)
   exact ih e.on h3 _ ho' (hL e.on _ ho' (he e h1 h2)) j h4
theorem Closed.set {L:Array Bool}(h:Closed ops L){i:Nat}{o:Oper}(ho:ops[i]? =some o)(he:∀e∈o.after.toList,Region.binds .any e=true→L.getD e.on false=true):Closed ops (L.setIfInBounds i true):=by
 intro k q hk hl e h1 h2
 by_cases e1:i=k
 ·subst e1
  rw[ho]at hk
  cases hk
  exact getD_set_true (he e h1 h2)
 ·rw[getD_set_ne false e1]at hl
  exact getD_set_true (h k q hk hl e h1 h2)
theorem count_set {L:Array Bool}{i:Nat}(h:L.getD i true=false):(L.setIfInBounds i true).toList.count false+1=L.toList.count false:=by
 have hi:i<L.size:=by
  rcases Nat.lt_or_ge i L.size with h'|h'
  ·exact h'
  ·simp[Array.getElem?_eq_none h']at h
 have hv:L.toList[i]'(by simpa using hi)=false:=by simpa [hi]using h
 rw[Array.toList_setIfInBounds,List.count_set (by simpa using hi)]
 have:0<L.toList.count false:=by
  rw[List.count_pos_iff]
  exact List.mem_iff_getElem.2 ⟨i,by simpa using hi,hv⟩
 simp only[hv]
 simp only[beq_self_eq_true,if_true]
 have e:(true==false)=false:=rfl
 simp only[e]
 simp only[Bool.false_eq_true,if_false]
 omega
theorem getD_of {L:Array Bool}{i:Nat}{b:Bool}(hi:i<L.size):L.getD i b=L[i]:=by simp[hi]
theorem unlisted {L:Array Bool}{i:Nat}(hi:i<L.size)(h:L.getD i true=false):0<L.toList.count false:=by
 rw[List.count_pos_iff]
 have:L[i]=false:=by rw[←h];simp[hi]
 rw[←this]
 simp
theorem any_late (D:Dr P E F rid ops M T bits p σ0 acc)(hK:KOk F K z (Q .normal)):∀(fuel q:Nat) (L:Array Bool) (c:Cc) (w:World) (R:Cls) (σ:St) (a:Act),p≤q→q≤ops.size→L.size=ops.size→L.toList.count false≤fuel→
 (∀j,j<q→L.getD j false=true)→(∀j,q≤j→j<ops.size→L.getD j true=false)→Rel F c w R σ a→runOps E F.nt rid ops (ops.toList.drop q) q σ K=some z→wpAny P .any ops Q fuel L a w:=by
 intro fuel
 induction fuel with
 |zero=>
  intro q L c w R σ a hp hq hs hc h1 h2 h hz
  have hqn:q=ops.size:=by
   rcases Nat.lt_or_ge q ops.size with hlt|hge
   ·have:=unlisted (by omega) (h2 q (Nat.le_refl q) hlt)
    omega
   ·omega
  subst hqn
  refine And.intro ?_ ?_
  ·refine List.eq_nil_iff_forall_not_mem.2 fun i hi=> ?_
   obtain⟨hu,o,ho,_⟩:=mem_ready.1 hi
   have hlt:i<ops.size:=(Array.getElem?_eq_some_iff.1 ho).1
   have:=h1 i hlt
   rw[getD_of (by omega)]at hu this
   rw[hu]at this
   cases this
  ·rw[List.drop_of_length_le (by simp)]at hz
   exact hK σ c w R a h hz
 |succ fuel ih=>
  intro q L c w R σ a hp hq hs hc h1 h2 h hz
  rcases Nat.lt_or_ge q ops.size with hlt|hge
  ·have ho:ops[q]? =some ops[q]:=Array.getElem?_eq_getElem hlt
   have hrq:q∈Region.ready .any ops L:=by
    rw[mem_ready]
    exact⟨h2 q (Nat.le_refl q) hlt,_,ho,fun e he hb=>h1 e.on (D.edges q _ ho e (Array.mem_toList_iff.2 he) hb)⟩
   refine⟨fun hn=>(by rw[hn]at hrq;cases hrq),fun i hi=> ?_⟩
   obtain⟨hu,o,hio,he⟩:=mem_ready.1 hi
   have hilt:i<ops.size:=(Array.getElem?_eq_some_iff.1 hio).1
   have hqi:q≤i:=by
    rcases Nat.lt_or_ge i q with h'|h'
    ·have:=h1 i h'
     rw[getD_of (by omega)]at hu this
     rw[hu]at this
     cases this
    ·exact h'
   have hiq:i=q:=by
    rcases Nat.lt_or_ge q i with h'|h'
    ·have hcl:Closed ops L:=by
      intro k o' hk hl e h3 h4
      have hkq:k<q:=by
       rcases Nat.lt_or_ge k q with h''|h''
       ·exact h''
       ·have hk':k<ops.size:=(Array.getElem?_eq_some_iff.1 hk).1
        have:=h2 k h'' hk'
        rw[getD_of (by omega)]at this hl
        rw[this]at hl
        cases hl
      exact h1 e.on (Nat.lt_trans (D.edges k o' hk e h3 h4) hkq)
     have hb:BB bits i q=true:=D.late i hilt (by omega) q h' (by
      cases hm:mem M q with
      |false=>rfl
      |true=>have:=D.mlt q hm;omega) (by
      cases hm:mem T q with
      |false=>rfl
      |true=>have:=D.tlt q hm;omega)
     have:=D.bits_in hcl i o hio (fun e h3 h4=>he e (Array.mem_toList_iff.1 h3) h4) q hb
     have hu':=h2 q (Nat.le_refl q) hlt
     rw[getD_of (by omega)]at this hu'
     rw[this]at hu'
     cases hu'
    ·omega
   subst hiq
   have hd:ops.toList.drop i=ops[i]::ops.toList.drop (i+1):=by
    rw[List.drop_eq_getElem_cons (by simpa using hlt)]
    simp
   rw[hd]at hz
   refine op_step D.hE D.hF ho (fun σ c w R a h hz=> ?_) h hz
   have hcs:=count_set hu
   refine ih (i+1) (L.setIfInBounds i true) c w R σ a (by omega) (by omega) (by simpa using hs) (by omega) ?_ ?_ h hz
   ·intro j hj
    by_cases e:i=j
    ·subst e
     rw[getD_of (by simp;omega)]
     simp
    ·exact getD_set_true (h1 j (by omega))
   ·intro j hj hj'
    rw[getD_set_ne true (by omega)]
    exact h2 j (by omega) hj'
  ·have hqn:q=ops.size:=by omega
   subst hqn
   refine⟨fun _=> ?_,fun i hi=> ?_⟩
   ·rw[List.drop_of_length_le (by simp)]at hz
    exact hK σ c w R a h hz
   ·obtain⟨hu,o,ho,_⟩:=mem_ready.1 hi
    have hlt:i<ops.size:=(Array.getElem?_eq_some_iff.1 ho).1
    have:=h1 i hlt
    rw[getD_of (by omega)]at hu this
    rw[hu]at this
    cases this
end
section
variable {α:Type} {P:Program} {E:Env} {F:Fr} {z:α}
variable {rid p:Nat} {ops:Array Oper} {M T bits:List Nat} {σ0:St} {acc:Ac} {K:St→Option α} {Q:Exit→Act→World→Prop}
abbrev Ls (L:Array Bool)(j:Nat):Bool:=L.getD j false
theorem chain_pairs {B:Nat→Nat→Bool}:∀{acc:Ac},Chain B acc→∀x∈acc,∀y∈acc,x.1≠y.1→
 (sayNone y.2.2.1 y.2.2.2 (keys x.2.2.2)=true)∨(B y.1 x.1=true)
 |[],_,x,hx,_,_,_=>by cases hx
 |(i,dst,av,adds)::r,hc,x,hx,y,hy,hne=>by
  rcases List.mem_cons.1 hx with rfl|hx
  ·rcases List.mem_cons.1 hy with rfl|hy
   ·exact absurd rfl hne
   ·exact .inl (acOk_mem hc.1 y hy).2.2.1
  ·rcases List.mem_cons.1 hy with rfl|hy
   ·rcases(acOk_mem hc.1 x hx).2.2.2 with h|h
    ·exact .inr h
    ·exact .inl h
   ·exact chain_pairs hc.2.2 x hx y hy hne
theorem chain_nodup {B:Nat→Nat→Bool}:∀{acc:Ac},Chain B acc→∀x∈acc,nodup (keys x.2.2.2)=true
 |[],_,x,hx=>by cases hx
 |(i,dst,av,adds)::r,hc,x,hx=>by
  rcases List.mem_cons.1 hx with rfl|hx
  ·exact hc.2.1
  ·exact chain_nodup hc.2.2 x hx
theorem guard_wanted {c:Cc}{w:World}{R:Cls}{σ τ:St}{a:Act}{o:Oper}{go:Bool}(h:Rel F c w R τ a)(s:Sub σ τ)(hg:GuardIs ops σ o go):Region.wanted o (yielded ops a.tmps)=go:=by
 rcases hg with⟨h1,rfl⟩|⟨j,want,t,h1,h2,h3⟩
 ·simp[Region.wanted,h1]
 ·rcases h3 with⟨h3,rfl⟩|⟨b,h3,rfl⟩
  ·obtain⟨v,hv1,hv2⟩:=h.tm t _ (s.tm t _ h3)
   have hv2:v=Go.undef:=hv2
   subst hv2
   simp[Region.wanted,h1,yielded_undef h2 hv1]
  ·obtain⟨v,hv1,hv2⟩:=h.tm t _ (s.tm t _ h3)
   have hv2:v= .bool b:=V1.one hv2
   subst hv2
   simp only[Region.wanted,h1,yielded_bool h2 hv1]
   cases b<;>cases want<;>rfl
theorem any_step (D:Dr P E F rid ops M T bits p σ0 acc){L:Array Bool}{c:Cc}{w:World}{R:Cls}{a:Act}{i:Nat}{o:Oper}{N:Act→World→Prop}(hL:Closed ops L)(hs:L.size=ops.size)(hip:i<p)(hiM:mem M i=false)(ho:ops[i]? =some o)
 (hu:L.getD i true=false) (he:∀e∈o.after.toList,Region.binds .any e=true→L.getD e.on false=true) (h:Rel F c w R (minSt σ0 (Ls L) acc) a)
 (next:∀c w R a,Rel F c w R (minSt σ0 (Ls (L.setIfInBounds i true)) acc) a→N a w):wpOp P ops Q i N a w:=by
 obtain⟨x,hx,hxi⟩:=D.all i hip hiM
 obtain⟨o',h1,h2,h3,h4⟩:=(D.ent x hx).2.2
 obtain⟨i',dst,av,adds⟩:=x
 dsimp only at hxi h1 h2 h3 h4
 subst hxi
 rw[ho]at h1
 cases h1
 have hlt:i'<ops.size:=(Array.getElem?_eq_some_iff.1 ho).1
 have hsub:Sub (minSt σ0 (BB bits i') acc) (minSt σ0 (Ls L) acc):=minSt_sub D.chain D.base fun y _ hy=>D.bits_in hL i' o ho he y.1 hy
 have hu':Ls L i'=false:=by rw[Ls,getD_of (by omega)];rwa [getD_of (by omega)]at hu
 have hadd:Sub (minSt σ0 (Ls (L.setIfInBounds i' true)) acc) (addE (minSt σ0 (Ls L) acc) dst av adds):=
  minSt_add D.chain hx hu' (by rw[Ls,getD_of (by simp;omega)];simp) fun j hj=>getD_set_ne false (Ne.symm hj)
 simp only[wpOp,ho]
 rcases h4 with⟨hg,d,hd,rfl,rfl,hdel,hset⟩|⟨hg,rfl,rfl⟩
 ·rw[guard_wanted h hsub hg,if_pos rfl]
  have hd':=opD_mono hsub hd hdel hset
  have hok:dOk (minSt σ0 (Ls L) acc) d=true:=by
   simp only[dOk,hset,hdel,keys,nodup,disj,Bool.and_true,Bool.and_eq_true]
   refine⟨?_,chain_nodup D.chain _ hx⟩
   have key:∀(H:Hp),(∀n∈keys H,n∈keys d.adds)→newOk (minSt σ0 (Ls L) acc) H=true:=by
    intro H
    induction H with
    |nil=>exact fun _=>rfl
    |cons y H ih=>
     obtain⟨n,e⟩:=y
     intro hk
     simp only[newOk,Bool.and_eq_true]
     refine⟨minSt_fresh (D.base.new _ hx n (hk n (by simp[keys]))) fun y hy hly=> ?_,ih fun m hm=>hk m (by simp[keys,hm])⟩
     have hne:i'≠y.1:=by
      intro e
      rw[←e]at hly
      rw[hu']at hly
      cases hly
     rcases chain_pairs D.chain _ hx y hy hne with hq|hq
     ·exact sayNone_spec hq n (hk n (by simp[keys]))
     ·exfalso
      obtain⟨oy,q1,_⟩:=(D.ent y hy).2.2
      have:=D.bits_in hL y.1 oy q1 (hL y.1 oy q1 hly) i' hq
      have this:Ls L i'=true:=this
      rw[hu']at this
      cases this
   exact key d.adds fun _ h=>h
  refine .inl (op_ok D.hE h hd' hok D.hF (by omega) _ _ fun v w' hp=> ?_)
  obtain⟨c',R',hrel⟩:=apply_rel h3 hp
  refine next c' w' R' _ (Rel.less hadd ?_)
  have e:(minSt σ0 (Ls L) acc).apply o.dst d=addE (minSt σ0 (Ls L) acc) dst d.av d.adds:=by
   unfold St.apply addE
   rw[hdel,hset,drop_nil,sets_nil,h2]
  rw[←e]
  exact hrel
 ·rw[guard_wanted h hsub hg,if_neg (by simp)]
  refine next c w R _ (Rel.less hadd ?_)
  have hrel:=skip_rel h h3
  rw[h2]at hrel⊢
  exact hrel
theorem take_step (D:Dr P E F rid ops M T bits p σ0 acc){L:Array Bool}{c:Cc}{w:World}{R:Cls}{a:Act}{i:Nat}{o:Oper}(hL:Closed ops L)(hs:L.size=ops.size)(hip:i<p)(hiM:mem M i=false)(ho:ops[i]? =some o)
 (hu:L.getD i true=false) (he:∀e∈o.after.toList,Region.binds .any e=true→L.getD e.on false=true) (h:Rel F c w R (minSt σ0 (Ls L) acc) a) {x0:Operand} {ix:Nat} (hop:o.op= .extract x0 ix) (hgn:o.guard=none):
 ∃v c' R',(∀w':World,(execOp a.eval o).run P w'= .ok (.value v) w')∧Rel F c' w R' (minSt σ0 (Ls (L.setIfInBounds i true)) acc) (a.put o.dst v):=by
 obtain⟨x,hx,hxi⟩:=D.all i hip hiM
 obtain⟨o',h1,h2,h3,h4⟩:=(D.ent x hx).2.2
 obtain⟨i',dst,av,adds⟩:=x
 dsimp only at hxi h1 h2 h3 h4
 subst hxi
 rw[ho]at h1
 cases h1
 have hlt:i'<ops.size:=(Array.getElem?_eq_some_iff.1 ho).1
 have hsub:Sub (minSt σ0 (BB bits i') acc) (minSt σ0 (Ls L) acc):=minSt_sub D.chain D.base fun y _ hy=>D.bits_in hL i' o ho he y.1 hy
 have hu':Ls L i'=false:=by rw[Ls,getD_of (by omega)];rwa [getD_of (by omega)]at hu
 have hadd:Sub (minSt σ0 (Ls (L.setIfInBounds i' true)) acc) (addE (minSt σ0 (Ls L) acc) dst av adds):=
  minSt_add D.chain hx hu' (by rw[Ls,getD_of (by simp;omega)];simp) fun j hj=>getD_set_ne false (Ne.symm hj)
 rcases h4 with⟨hg,d,hd,rfl,rfl,hdel,hset⟩|⟨hg,_,_⟩
 ·have hd':=opD_mono hsub hd hdel hset
  obtain⟨v,hv,hp⟩:=extract_yield (P:=P) h hop hd'
  obtain⟨c',R',hrel⟩:=apply_rel h3 hp
  refine⟨v,c',R',hv,Rel.less hadd ?_⟩
  have e:(minSt σ0 (Ls L) acc).apply o.dst d=addE (minSt σ0 (Ls L) acc) dst d.av d.adds:=by
   unfold St.apply addE
   rw[hdel,hset,drop_nil,sets_nil,h2]
  rw[←e]
  exact hrel
 ·exfalso
  rcases hg with⟨_,hg⟩|⟨j,want,t,hg,_⟩
  ·cases hg
  ·rw[hgn]at hg;cases hg
theorem any_early (D:Dr P E F rid ops M T bits p σ0 acc)(hTk:T=takes bits ops p)(hrun:runOps E F.nt rid ops (ops.toList.drop p) p (minSt σ0 (fun _=>true) acc) K=some z)(hK:KOk F K z (Q .normal))(hQ:∀c a w,Q (.panic c) a w→False):∀(fuel:Nat) (L:Array Bool) (c:Cc) (w:World) (R:Cls) (a:Act),L.size=ops.size→L.toList.count false≤fuel→Closed ops L→(∀j,mem M j=true→L.getD j false=true)→
 (∀j,p≤j→j<ops.size→L.getD j true=false)→Rel F c w R (minSt σ0 (Ls L) acc) a→wpAny P .any ops Q fuel L a w:=by
 have done:∀(fuel:Nat) (L:Array Bool) (c:Cc) (w:World) (R:Cls) (a:Act),L.size=ops.size→L.toList.count false≤fuel→(∀j,p≤j→j<ops.size→L.getD j true=false)→
  (∀j,j<p→L.getD j false=true)→Rel F c w R (minSt σ0 (Ls L) acc) a→wpAny P .any ops Q fuel L a w:=by
  intro fuel L c w R a hs hc h2 h1 h
  have e:minSt σ0 (Ls L) acc=minSt σ0 (fun _=>true) acc:=minSt_same fun x hx=>h1 x.1 (D.ent x hx).1
  rw[e]at h
  exact any_late D hK fuel p L c w R _ a (Nat.le_refl p) D.le hs hc h1 h2 h hrun
 intro fuel
 induction fuel with
 |zero=>
  intro L c w R a hs hc hL hM h2 h
  refine done 0 L c w R a hs hc h2 (fun j hj=> ?_) h
  have hj':j<L.size:=by have:=D.le;omega
  rw[getD_of hj']
  cases hv:L[j]with
  |true=>rfl
  |false=>
   have:=unlisted hj' (by rw[getD_of hj',hv])
   omega
 |succ fuel ih=>
  intro L c w R a hs hc hL hM h2 h
  by_cases hall:∀j,j<p→L.getD j false=true
  ·exact done (fuel+1) L c w R a hs hc h2 hall h
  ·--the least that has not come up
   have hex:∃j,j<p∧L.getD j false≠true:=by
    apply Classical.byContradiction
    intro hn
    exact hall fun j hj=>Classical.byContradiction fun hq=>hn ⟨j,hj,hq⟩
   have hmin:∃j,(j<p∧L.getD j false≠true)∧∀k,k<j→¬(k<p∧L.getD k false≠true):=by
    obtain⟨j,hj⟩:=hex
    induction j using Nat.strongRecOn with
    |_ j ihj=>
     by_cases hk:∃k,k<j∧(k<p∧L.getD k false≠true)
     ·obtain⟨k,h3,h4⟩:=hk
      exact ihj k h3 h4
     ·exact⟨j,hj,fun k h3 h4=>hk ⟨k,h3,h4⟩⟩
   obtain⟨j,⟨hjp,hjl⟩,hjm⟩:=hmin
   have hjs:j<L.size:=by have:=D.le;omega
   have hju:L.getD j true=false:=by
    rw[getD_of hjs]at hjl⊢
    cases hv:L[j]with
    |true=>rw[hv]at hjl;exact absurd rfl hjl
    |false=>rfl
   have hoj:ops[j]? =some ops[j]:=Array.getElem?_eq_getElem (by omega)
   have hrj:j∈Region.ready .any ops L:=by
    rw[mem_ready]
    refine⟨hju,_,hoj,fun e he hb=> ?_⟩
    have hlt:=D.edges j _ hoj e (Array.mem_toList_iff.2 he) hb
    apply Classical.byContradiction
    intro hq
    exact hjm e.on hlt ⟨by omega,hq⟩
   have hjM:mem M j=false:=by
    cases hm:mem M j with
    |false=>rfl
    |true=>exact absurd (hM j hm) hjl
   cases hT:mem T j with
   |true=>
    obtain⟨_,o,x0,ix,hoj',hop,hgn,hfree⟩:=takes_spec (hTk▸hT)
    obtain⟨hu,o2,ho2,he⟩:=mem_ready.1 hrj
    rw[hoj']at ho2
    cases ho2
    have he':∀e∈o.after.toList,Region.binds .any e=true→L.getD e.on false=true:=fun e h3 h4=>he e (Array.mem_toList_iff.1 h3) h4
    obtain⟨v,c',R',hv,hrel⟩:=take_step D hL hs hjp hjM hoj' hu he' h hop hgn
    have hcs:=count_set hu
    refine wpAny_take (v:=v) hoj' D.sel (free_up (fun k hk ha=>by
     rw[priors_get hk]at ha
     have hb:=D.bits_in hL j o hoj' he' k ha
     rw[getD_of (by omega)]at hb⊢
     exact hb) hfree) (by simpa using hrj) (fun c a w hq=>(hQ _ _ _ hq).elim) (.inl ⟨by simp[Region.wanted,hgn],hv⟩) ?_
    refine ih (L.setIfInBounds j true) c' w R' _ (by simpa using hs) (by omega) (hL.set hoj' he') (fun k hk=>getD_set_true (hM k hk)) (fun k hk hk'=> ?_) hrel
    rw[getD_set_ne true (by omega)]
    exact h2 k hk hk'
   |false=>
   refine⟨fun hn=>(by rw[hn]at hrj;cases hrj),fun i hi=> ?_⟩
   obtain⟨hu,o,hio,he⟩:=mem_ready.1 hi
   have hilt:i<ops.size:=(Array.getElem?_eq_some_iff.1 hio).1
   have he':∀e∈o.after.toList,Region.binds .any e=true→L.getD e.on false=true:=fun e h3 h4=>he e (Array.mem_toList_iff.1 h3) h4
   have hip:i<p:=by
    rcases Nat.lt_or_ge i p with h'|h'
    ·exact h'
    ·have hb:BB bits i j=true:=D.late i hilt h' j (by omega) hjM hT
     exact absurd (D.bits_in hL i o hio he' j hb) hjl
   have hiM:mem M i=false:=by
    cases hm:mem M i with
    |false=>rfl
    |true=>
     have:=hM i hm
     have hlt:i<L.size:=by omega
     rw[getD_of hlt]at hu this
     rw[hu]at this
     cases this
   refine any_step D hL hs hip hiM hio hu he' h fun c w R a h=> ?_
   have hcs:=count_set hu
   refine ih (L.setIfInBounds i true) c w R a (by simpa using hs) (by omega) (hL.set hio he') (fun k hk=>getD_set_true (hM k hk)) (fun k hk hk'=> ?_) h
   rw[getD_set_ne true (by omega)]
   exact h2 k hk hk'
theorem eval_move {x:Operand}{a:Act}{o:Oper}{w:World}(hop:o.op= .move x):(execOp a.eval o).run P w= .ok (.value (a.eval x)) w:=by simp[execOp,hop]
theorem wpAny_weaken {Q Q':Exit→Act→World→Prop}(hq:∀e a w,Q e a w→Q' e a w):∀(fuel:Nat) (L:Array Bool) (a:Act) (w:World),wpAny P .any ops Q fuel L a w→wpAny P .any ops Q' fuel L a w:=by
 have hup:∀{o:Oper} {a:Act} {w:World} {K:Act→World→Prop},o.wp P a w K Q→o.wp P a w K Q':=by
  intro o a w K hh
  unfold Oper.wp at*
  generalize (execOp a.eval o).run P w=r at*
  cases r with
  |ok n w'=>
   cases n<;>simp only[Oper.upon]at hh⊢<;>first
    |exact hh
    |exact Calls.mono hh (fun e w'' he=>by cases e<;>first|exact he|exact hq _ _ _ he|(obtain⟨a,w,h⟩:=he;exact⟨a,w,hq _ _ _ h⟩))
  |halt x w'=>cases x<;>simp only[Oper.upon]at hh⊢<;>first|exact hh|exact hq _ _ _ hh
 intro fuel
 induction fuel with
 |zero=>exact fun L a w h=>⟨h.1,hq _ _ _ h.2⟩
 |succ fuel ih=>
  intro L a w h
  refine⟨fun e=>hq _ _ _ (h.1 e),fun i hi=> ?_⟩
  have:=h.2 i hi
  unfold wpOp at this⊢
  split
  ·rename_i ho
   rw[ho]at this
   exact ih _ _ _ this
  ·rename_i o ho
   rw[ho]at this
   dsimp only at this
   split
   ·rename_i hw
    rw[if_pos hw]at this
    rcases this with this|⟨h1,a',w',h2⟩
    ·exact .inl (hup (Oper.wp_mono (fun a w h=>ih _ _ _ h) this))
    ·exact .inr ⟨h1,a',w',hq _ _ _ h2⟩
   ·rename_i hw
    rw[if_neg hw]at this
    exact ih _ _ _ this
theorem take_ok {Kt:St→Option α}(hsel:Region.noSelect ops=true)(hQ:∀c a w,Q (.panic c) a w→False):∀(Ms:List Nat) (fuel:Nat) (L:Array Bool) (c:Cc) (w:World) (R:Cls) (σ:St) (a:Act),L.size=ops.size→L.toList.count false≤fuel→Closed ops L→
 Rel F c w R σ a→takeM F.nt ops Ms L σ Kt=some z→
 (∀(fuel:Nat) (L':Array Bool) c w R σ a,L'.size=ops.size→L'.toList.count false≤fuel→Closed ops L'→(∀j,mem Ms j=true→L'.getD j false=true)→(∀j,mem Ms j=false→L'.getD j true=L.getD j true)→Rel F c w R σ a→Kt σ=some z→wpAny P .any ops Q fuel L' a w)→
 wpAny P .any ops Q fuel L a w
 |[],fuel,L,c,w,R,σ,a,hs,hc,hL,h,hz,hn=>hn fuel L c w R σ a hs hc hL (fun j hj=>by cases hj) (fun j _=>rfl) h hz
 |i::Ms,fuel,L,c,w,R,σ,a,hs,hc,hL,h,hz,hn=>by
  unfold takeM at hz
  split at hz
  ·exact no hz
  ·rename_i o ho
   split at hz
   ·rename_i x hop hgd
    split at hz
    ·rename_i av hav hg
     simp only[Bool.and_eq_true]at hg
     obtain⟨⟨g1,g2⟩,g3⟩:=hg
     have hir:i∈Region.ready .any ops L:=by simpa using g2
     obtain⟨hu,o',ho',he⟩:=mem_ready.1 hir
     rw[ho]at ho'
     cases ho'
     have hlt:i<L.size:=by rw[hs];exact(Array.getElem?_eq_some_iff.1 ho).1
     have hpos:=unlisted hlt hu
     cases fuel with
     |zero=>omega
     |succ fuel=>
      have hcs:=count_set hu
      refine wpAny_take (v:=a.eval x) ho hsel g3 g2 (fun c a w hq=>(hQ _ _ _ hq).elim) (.inl ⟨by simp[Region.wanted,hgd],fun w=>eval_move hop⟩) ?_
      refine take_ok hsel hQ Ms fuel (L.setIfInBounds i true) c w R _ _ (by simpa using hs) (by omega) (hL.set ho fun e h1 h2=>he e (Array.mem_toList_iff.1 h1) h2) (Rel.put h g1 fun _=>eval_rel h hav) hz ?_
      intro fuel L' c w R σ a k1 k2 k3 k4 k5 k6 k7
      refine hn fuel L' c w R σ a k1 k2 k3 (fun j hj=> ?_) (fun j hj=> ?_) k6 k7
      ·cases hm:mem Ms j with
       |true=>exact k4 j hm
       |false=>
        rcases List.mem_cons.1 ((mem_iff _ _).1 hj)with rfl|hj
        ·have:=k5 j hm
         rw[getD_of (by omega),getD_of (by simpa using hlt)]at this
         rw[getD_of (by omega),this]
         simp
        ·rw[(mem_iff _ _).2 hj]at hm
         cases hm
      ·have hne:i≠j:=by
        rintro rfl
        rw[(mem_iff _ _).2 (by simp)]at hj
        cases hj
       have hm:mem Ms j=false:=by
        cases hm:mem Ms j with
        |false=>rfl
        |true=>
         have:mem (i::Ms) j=true:=(mem_iff _ _).2 (List.mem_cons_of_mem _ ((mem_iff _ _).1 hm))
         rw[this]at hj
         cases hj
       rw[k5 j hm,getD_set_ne true hne]
    ·exact no hz
   ·exact no hz
end
section
variable {α:Type} {P:Program} {E:Env} {F:Fr} {z:α}
variable {rid p:Nat} {ops:Array Oper} {M T bits:List Nat} {σ0:St} {acc:Ac} {K:St→Option α} {Q:Exit→Act→World→Prop}
theorem ordList_mem {go:Nat→Option α}:∀{l:List Nat},ordList go l=some z→∀i∈l,go i=some z
 |[],h,_,_=>(by cases h)
 |[i],h,j,hj=>by
  rw[List.mem_singleton]at hj
  subst hj
  exact h
 |i::j::r,h,k,hk=>by
  unfold ordList at h
  obtain⟨h1,h2⟩:=both_some h
  rcases List.mem_cons.1 hk with rfl|hk
  ·exact h1
  ·exact ordList_mem h2 k hk
theorem allU_mem {go:List Nat→Option α}:∀{l:List (List Nat)},allU go l=some z→∀i∈l,go i=some z
 |[],h,_,_=>(by cases h)
 |[i],h,j,hj=>by
  rw[List.mem_singleton]at hj
  subst hj
  exact h
 |i::j::r,h,k,hk=>by
  unfold allU at h
  obtain⟨h1,h2⟩:=both_some h
  rcases List.mem_cons.1 hk with rfl|hk
  ·exact h1
  ·exact allU_mem h2 k hk
theorem filter_subs {f:Nat→Bool}:∀(l:List Nat),l.filter f∈subs l
 |[]=>by simp[subs]
 |i::r=>by
  have ih:=filter_subs (f:=f) r
  unfold subs
  rw[List.mem_append,List.filter_cons]
  split
  ·exact .inr (List.mem_map.2 ⟨_,ih,rfl⟩)
  ·exact .inl ih
theorem ord_ok (hE:EnvOk P E)(hF:∀n z,look F.io n=some z→n<1000)(hK:KOk F K z (Q .normal)):∀(fuel f:Nat) (L:Array Bool) (c:Cc) (w:World) (R:Cls) (σ:St) (a:Act),L.size=ops.size→L.toList.count false≤fuel→
 Rel F c w R σ a→ordAny E F.nt rid ops f L σ K=some z→wpAny P .any ops Q fuel L a w:=by
 have fin:∀(f:Nat) (L:Array Bool) (c:Cc) (w:World) (R:Cls) (σ:St) (a:Act),Rel F c w R σ a→ordAny E F.nt rid ops f L σ K=some z→Region.ready .any ops L=[]→Q .normal a w:=by
  intro f L c w R σ a h hz hn
  cases f with
  |zero=>unfold ordAny at hz;rw[hn]at hz;exact hK σ c w R a h hz
  |succ f=>unfold ordAny at hz;rw[hn]at hz;exact hK σ c w R a h hz
 intro fuel
 induction fuel with
 |zero=>
  intro f L c w R σ a hs hc h hz
  have hn:Region.ready .any ops L=[]:=by
   refine List.eq_nil_iff_forall_not_mem.2 fun i hi=> ?_
   obtain⟨hu,o,ho,_⟩:=mem_ready.1 hi
   have hlt:i<ops.size:=(Array.getElem?_eq_some_iff.1 ho).1
   have:=unlisted (by omega) hu
   omega
  exact⟨hn,fin f L c w R σ a h hz hn⟩
 |succ fuel ih=>
  intro f L c w R σ a hs hc h hz
  refine⟨fun hn=>fin f L c w R σ a h hz hn,fun i hi=> ?_⟩
  obtain⟨hu,o,ho,_⟩:=mem_ready.1 hi
  cases f with
  |zero=>
   unfold ordAny at hz
   split at hz
   ·rename_i hn
    rw[hn]at hi
    cases hi
   ·exact no hz
  |succ f=>
   unfold ordAny at hz
   split at hz
   ·rename_i hn
    rw[hn]at hi
    cases hi
   ·rename_i i0 r hr
    rw[hr]at hi
    have hz:=ordList_mem hz i hi
    rw[ho]at hz
    refine op_step hE hF ho (fun σ c w R a h hz=> ?_) h hz
    have hcs:=count_set hu
    exact ih f (L.setIfInBounds i true) c w R σ a (by simpa using hs) (by omega) h hz
theorem pickP_spec {nt:Nat}{σ τ:St}{j:Nat}:∀{l:List Nat},pickP E nt ops σ l=some (j,τ)→j∈l∧pure1 E nt ops σ j=some τ
 |[],h=>no h
 |i::r,h=>by
  unfold pickP at h
  split at h
  ·rename_i τ' hp
   have h:=Option.some.inj h
   injection h with h1 h2
   subst h1;subst h2
   exact⟨List.mem_cons_self ..,hp⟩
  ·obtain⟨h1,h2⟩:=pickP_spec h
   exact⟨List.mem_cons_of_mem _ h1,h2⟩
theorem fieldAddr_yield (hE:EnvOk P E){c:Cc}{w:World}{R:Cls}{σ:St}{a:Act}{o:Oper}(h:Rel F c w R σ a){t f off sz:Nat}{x:Operand}{i:TI}{l l':Lf}{g:Bool}(hop:o.op= .fieldAddr t x f)(hi:E.ty t=some i)(hx:σ.eval x=some (.v false [l]))(hf:i.fields[f]? =some (off,sz,g))(hl':addrOff σ.heap l off=some l'):
 ∃v,(∀w':World,(execOp a.eval o).run P w'= .ok (.value v) w')∧(AV.v false [l']).rel c w R σ.heap v:=by
 obtain⟨l1,hl1,hv⟩:=eval_rel h hx
 cases hl1
 have hT:=hE.ty t i hi
 have hk:i.k= .st:=by
  rcases hT.fld with h'|h'
  ·cases hk:i.k<;>simp[hk,Tk.agg]at h'
   rfl
  ·rw[h']at hf;cases hf
 obtain⟨dd,hu,_,_,_,_,_,hst⟩:=hT.und
 obtain⟨fs,rfl,_,_,hfs⟩:=hst hk
 obtain⟨fd,d',i',h1,h2,h3,h4,h5,h6,h7⟩:=hfs f _ hf
 have hip:isPtr σ.heap l=true:=by
  unfold addrOff at hl'
  split at hl'
  ·assumption
  ·cases hl'
 obtain⟨b,oo,hvv,hr⟩:=isPtr_rel hip hv h
 refine⟨.pointer (some ⟨b,oo+off,none⟩),fun w'=> ?_,l',rfl,hr off l' hl'⟩
 have h6':i'.size≠0:=by rw[h5];omega
 simp[execOp,hop,hvv,Instr.fieldAt,run_underlying hu,h1,Instr.sureAddr,fieldPlace,sizeOf,typeInfo,h3,h6',h4,Addr.add_lit]
theorem pure1_ok (hE:EnvOk P E){c:Cc}{w:World}{R:Cls}{σ τ:St}{a:Act}{j:Nat}(h:Rel F c w R σ a)(hp:pure1 E F.nt ops σ j=some τ):
 ∃o v c' R',ops[j]? =some o∧o.guard=none∧Region.free .any ops (Array.replicate ops.size false) j=true∧(∀w':World,(execOp a.eval o).run P w'= .ok (.value v) w')∧Rel F c' w R' τ (a.put o.dst v):=by
 unfold pure1 at hp
 split at hp
 ·exact no hp
 ·rename_i o ho
  split at hp
  ·exact no hp
  ·rename_i hg
   simp only[Bool.and_eq_true,Option.isNone_iff_eq_none]at hg
   obtain⟨⟨g1,g2⟩,g3⟩:=hg
   split at hp
   ·rename_i x hop
    split at hp
    ·rename_i av hav
     have hp:=Option.some.inj hp
     subst hp
     exact⟨o,a.eval x,c,R,ho,g1,g3,fun w=>eval_move hop,Rel.put h g2 fun _=>eval_rel h hav⟩
    ·exact no hp
   ·rename_i x ix hop
    split at hp
    ·rename_i vs hx
     split at hp
     ·rename_i g ls hv
      have hp:=Option.some.inj hp
      subst hp
      have hd:opD E σ 0 o some=some ⟨.v g ls,[],[],[]⟩:=by
       unfold opD
       rw[hop]
       dsimp only
       rw[hx]
       dsimp only
       rw[hv]
      obtain⟨v,hv,c',R',hr,hav⟩:=extract_yield (P:=P) h hop hd
      rw[newH_pure]at hr hav
      exact⟨o,v,c',R',ho,g1,g3,hv,Rel.put hr g2 fun _=>hav⟩
     ·exact no hp
    ·exact no hp
   ·rename_i t x f hop
    split at hp
    ·rename_i i l hi hx
     split at hp
     ·rename_i off sz g hf
      split at hp
      ·rename_i l' hl'
       have hp:=Option.some.inj hp
       subst hp
       obtain⟨v,hv,hav⟩:=fieldAddr_yield (P:=P) hE h hop hi hx hf hl'
       exact⟨o,v,c,R,ho,g1,g3,hv,Rel.put h g2 fun _=>hav⟩
      ·exact no hp
     ·exact no hp
    ·exact no hp
   ·rename_i op t x y u hop
    have bin:∀(k k':IntKind) (n m r:Int) (i:TI),E.ty t=some i→σ.eval x=some (.v false [.val (.int k n)])→σ.eval y=some (.v false [.val (.int k' m)])→k=k'→intBin op k n m (intRest k) some=some (vint k r)→
     ∃v:Value,(∀w':World,(execOp a.eval o).run P w'= .ok (.value v) w')∧(vint k r).rel c w R σ.heap v:=by
     intro k k' n m r i hi hx hy hk hb
     subst hk
     have e1:a.eval x= .int k n:=V1.one (eval_rel h hx)
     have e2:a.eval y= .int k m:=V1.one (eval_rel h hy)
     refine⟨.int k r,fun w'=> ?_,_,rfl,rfl⟩
     obtain⟨v,h1,h2⟩:=intBin_run (P:=P) (w:=w') (t:=t) hb
     have hv:v= .int k r:=V1.one (h1 c w R σ.heap)
     subst hv
     have hg:=guard_ok (P:=P) (op:=op) (t:=t) (x:=x) (y:=y) (u:=a.eval x) (v:=a.eval y) (w:=w') (fun xs ys h3 _=>by rw[e1]at h3;cases h3) (by rw[e1];simp)
     rw[←e1,←e2]at h2
     simp[execOp,hop,hg,h2]
    split at hp
    ·rename_i i k n k' m hi hx hy
     split at hp
     ·rename_i hk
      have hp:=Option.some.inj hp
      subst hp
      obtain⟨v,hv,hav⟩:=bin k k' n m _ _ hi hx hy (of_decide_eq_true hk) rfl
      exact⟨o,v,c,R,ho,g1,g3,hv,Rel.put h g2 fun _=>hav⟩
     ·exact no hp
    ·rename_i i k n k' m hi hx hy
     split at hp
     ·rename_i hk
      have hp:=Option.some.inj hp
      subst hp
      obtain⟨v,hv,hav⟩:=bin k k' n m _ _ hi hx hy (of_decide_eq_true hk) rfl
      exact⟨o,v,c,R,ho,g1,g3,hv,Rel.put h g2 fun _=>hav⟩
     ·exact no hp
    ·exact no hp
   ·exact no hp
theorem free_mono {j:Nat}(h:Region.free .any ops (Array.replicate ops.size false) j=true)(L:Array Bool):Region.free .any ops L j=true:=by
 unfold Region.free at h⊢
 split at h
 ·cases h
 ·simp only[List.all_eq_true,List.mem_range]at h⊢
  intro i hi
  have g:=h i hi
  have e:(Array.replicate ops.size false).getD i true=false:=by simp[Array.getD,hi]
  rw[e,Bool.or_false]at g
  simp only[Bool.or_eq_true]at g⊢
  rcases g with g|g
  ·exact .inl (.inl g)
  ·exact .inr g
theorem rdyL_go :∀(os:List Oper) (r:List Bool) (L:List Bool) (i:Nat),r.length=os.length→(∀k,os[k]? =ops[i+k]?)→(∀k,k<os.length→r.getD k true=L.getD (i+k) true)→
 rdyL (deps os) r L i=(List.range' i os.length).filter fun i=> !L.toArray.getD i true&&((ops[i]?).map (·.after.all fun e=> !Region.binds .any e||L.toArray.getD e.on false)).getD false
 |[],[],L,i,_,_,_=>rfl
 |o::os,b::r,L,i,hl,ho,hb=>by
  have h0:ops[i]? =some o:=by have:=ho 0;simpa using this.symm
  have hb0:L.getD i true=b:=by have:=hb 0 (by simp);simpa using this.symm
  have ih:=rdyL_go os r L (i+1) (by simpa using hl) (fun k=>by have:=ho (k+1);rw[List.getElem?_cons_succ]at this;rw[this];congr 1;omega) (fun k hk=>by have:=hb (k+1) (by simpa using hk);rw[List.getD_cons_succ]at this;rw[this];congr 1;omega)
  have hd:(((o.after.toList.filter fun e=>Region.binds .any e).map (·.on)).all fun e=>L.getD e false)=o.after.all fun e=> !Region.binds .any e||L.toArray.getD e.on false:=by
   rw[←Array.all_toList]
   generalize o.after.toList=es
   induction es with
   |nil=>rfl
   |cons e es ih=>
    rw[List.filter_cons,List.all_cons,←ih]
    have g:L.toArray.getD e.on false=L.getD e.on false:=by simp[Array.getD,List.getD_eq_getElem?_getD];split<;>simp_all
    rw[g]
    cases Region.binds .any e<;>simp
  have g:L.toArray.getD i true=b:=by rw[←hb0];simp[Array.getD,List.getD_eq_getElem?_getD];split<;>simp_all
  unfold rdyL deps
  rw[List.map_cons,List.length_cons,List.range'_succ,List.filter_cons,g,h0]
  show(match !b&&(((o.after.toList.filter fun e=>Region.binds .any e).map (·.on)).all fun e=>L.getD e false)with|true=>i::rdyL (deps os) r L (i+1)|false=>rdyL (deps os) r L (i+1))=_
  rw[hd,ih]
  simp only[Option.map_some,Option.getD_some]
  by_cases hc:(!b&&o.after.all fun e=> !Region.binds .any e||L.toArray.getD e.on false)=true
  ·rw[if_pos hc,hc]
  ·rw[if_neg hc,(Bool.not_eq_true _).mp hc]
theorem rdyL_eq {L:List Bool}(hl:L.length=ops.size):rdyL (deps ops.toList) L L 0=Region.ready .any ops L.toArray:=by
 rw[rdyL_go (ops:=ops) ops.toList L L 0 (by simpa using hl) (fun k=>by simp) (fun k _=>by rw[Nat.zero_add])]
 unfold Region.ready
 rw[List.range_eq_range',Array.length_toList]
theorem setL_eq {β:Type}:∀(L:List Bool) (i:Nat) (K:List Bool→β),setL L i K=K (L.set i true)
 |[],i,K=>rfl
 |b::r,0,K=>rfl
 |b::r,i+1,K=>by
  show setL r (i+1-1) (fun r'=>K (b::r'))=_
  rw[setL_eq r];rfl
theorem falses_eq {β:Type}:∀(os:List Oper) (K:List Bool→β),falses os K=K (List.replicate os.length false)
 |[],K=>rfl
 |o::os,K=>by
  show falses os (fun r'=>K (false::r'))=_
  rw[falses_eq os,List.length_cons,List.replicate_succ]
theorem ordQ_eq {nt rid:Nat}{K:St→Option α}:∀(f:Nat) (L:List Bool) (σ:St),L.length=ops.size→ordQ E nt rid ops (deps ops.toList) f L σ K=ordP E nt rid ops f L.toArray σ K
 |0,L,σ,hl=>by unfold ordQ ordP;rw[rdyL_eq hl]
 |f+1,L,σ,hl=>by
  have next:∀(j:Nat) (τ:St),setL L j (fun L=>ordQ E nt rid ops (deps ops.toList) f L τ K)=ordP E nt rid ops f (L.toArray.setIfInBounds j true) τ K:=by
   intro j τ
   rw[setL_eq,ordQ_eq f _ τ (by simpa using hl),List.setIfInBounds_toArray]
  unfold ordQ ordP
  rw[rdyL_eq hl]
  simp only[next]
theorem ordP_ok (hE:EnvOk P E)(hF:∀n z,look F.io n=some z→n<1000)(hsel:Region.noSelect ops=true)(hQ:∀c a w,Q (.panic c) a w→False)(hK:KOk F K z (Q .normal)):∀(fuel f:Nat) (L:Array Bool) (c:Cc) (w:World) (R:Cls) (σ:St) (a:Act),L.size=ops.size→L.toList.count false≤fuel→
 Rel F c w R σ a→ordP E F.nt rid ops f L σ K=some z→wpAny P .any ops Q fuel L a w:=by
 have fin:∀(f:Nat) (L:Array Bool) (c:Cc) (w:World) (R:Cls) (σ:St) (a:Act),Rel F c w R σ a→ordP E F.nt rid ops f L σ K=some z→Region.ready .any ops L=[]→Q .normal a w:=by
  intro f L c w R σ a h hz hn
  cases f with
  |zero=>unfold ordP at hz;rw[hn]at hz;exact hK σ c w R a h hz
  |succ f=>unfold ordP at hz;rw[hn]at hz;exact hK σ c w R a h hz
 intro fuel
 induction fuel with
 |zero=>
  intro f L c w R σ a hs hc h hz
  have hn:Region.ready .any ops L=[]:=by
   refine List.eq_nil_iff_forall_not_mem.2 fun i hi=> ?_
   obtain⟨hu,o,ho,_⟩:=mem_ready.1 hi
   have hlt:i<ops.size:=(Array.getElem?_eq_some_iff.1 ho).1
   have:=unlisted (by omega) hu
   omega
  exact⟨hn,fin f L c w R σ a h hz hn⟩
 |succ fuel ih=>
  intro f L c w R σ a hs hc h hz
  by_cases hnil:Region.ready .any ops L=[]
  ·exact⟨fun _=>fin f L c w R σ a h hz hnil,fun i hi=>by rw[hnil]at hi;cases hi⟩
  cases f with
  |zero=>
   unfold ordP at hz
   split at hz
   ·rename_i hn
    exact absurd hn hnil
   ·exact no hz
  |succ f=>
   unfold ordP at hz
   split at hz
   ·rename_i hn
    exact absurd hn hnil
   ·rename_i i0 r hr
    split at hz
    ·rename_i j τ hp
     obtain⟨hj,hp⟩:=pickP_spec hp
     rw[←hr]at hj
     obtain⟨o,v,c',R',ho,hgn,hfree,hv,hrel⟩:=pure1_ok (P:=P) hE h hp
     obtain⟨hu,_⟩:=mem_ready.1 hj
     have hcs:=count_set hu
     refine wpAny_take (v:=v) ho hsel (free_mono hfree L) (by simpa using hj) (fun c a w hq=>(hQ _ _ _ hq).elim) (.inl ⟨by simp[Region.wanted,hgn],hv⟩) ?_
     exact ih f (L.setIfInBounds j true) c' w R' τ _ (by simpa using hs) (by omega) hrel hz
    ·refine⟨fun hn=>absurd hn hnil,fun i hi=> ?_⟩
     obtain⟨hu,o,ho,_⟩:=mem_ready.1 hi
     rw[hr]at hi
     have hz:=ordList_mem hz i hi
     rw[ho]at hz
     refine op_step hE hF ho (fun σ c w R a h hz=> ?_) h hz
     have hcs:=count_set hu
     exact ih f (L.setIfInBounds i true) c w R σ a (by simpa using hs) (by omega) h hz
theorem any_float (D:Dr P E F rid ops M T bits p σ0 acc)(hrun:∀U∈subs T,ordAny E F.nt rid ops ops.size (listedBut ops.size p U) (minSt σ0 (fun j=> !(mem U j)) acc) K=some z)(hK:KOk F K z (Q .normal)):∀(fuel:Nat) (L:Array Bool) (c:Cc) (w:World) (R:Cls) (a:Act),L.size=ops.size→L.toList.count false≤fuel→Closed ops L→(∀j,mem M j=true→L.getD j false=true)→
 (∀j,p≤j→j<ops.size→L.getD j true=false)→Rel F c w R (minSt σ0 (Ls L) acc) a→wpAny P .any ops Q fuel L a w:=by
 have done:∀(fuel:Nat) (L:Array Bool) (c:Cc) (w:World) (R:Cls) (a:Act),L.size=ops.size→L.toList.count false≤fuel→(∀j,p≤j→j<ops.size→L.getD j true=false)→
  (∀j,j<p→mem T j=false→L.getD j false=true)→Rel F c w R (minSt σ0 (Ls L) acc) a→wpAny P .any ops Q fuel L a w:=by
  intro fuel L c w R a hs hc h2 h1 h
  have hU:∀j,j<p→(!(mem (T.filter fun j=> !(L.getD j false)) j))=L.getD j false:=by
   intro j hj
   cases hl:L.getD j false with
   |true=>
    cases hm:mem (T.filter fun j=> !(L.getD j false)) j with
    |false=>rfl
    |true=>
     have hm:=List.mem_filter.1 ((mem_iff _ _).1 hm)
     have hm:=hm.2
     rw[hl]at hm
     cases hm
   |false=>
    cases hT:mem T j with
    |false=>rw[h1 j hj hT]at hl;cases hl
    |true=>
     have:mem (T.filter fun j=> !(L.getD j false)) j=true:=(mem_iff _ _).2 (List.mem_filter.2 ⟨(mem_iff _ _).1 hT,by rw[hl];rfl⟩)
     rw[this]
     rfl
  have e:minSt σ0 (Ls L) acc=minSt σ0 (fun j=> !(mem (T.filter fun j=> !(L.getD j false)) j)) acc:=minSt_same fun x hx=>(hU x.1 (D.ent x hx).1).symm
  have e2:listedBut ops.size p (T.filter fun j=> !(L.getD j false))=L:=by
   refine Array.ext (by simp[listedBut,hs]) fun j hj hj'=> ?_
   have hjs:j<ops.size:=by omega
   simp only[listedBut,List.getElem_toArray,List.getElem_map,List.getElem_range]
   by_cases hp:j<p
   ·have:=hU j hp
    rw[this,getD_of hj']
    simp[hp]
   ·have:=h2 j (by omega) hjs
    rw[getD_of hj']at this
    rw[this]
    have:Nat.blt j p=false:=by
     cases hb:Nat.blt j p with
     |false=>rfl
     |true=>exact absurd (Nat.le_of_ble_eq_true hb) hp
    rw[this]
    rfl
  have hz:=hrun _ (filter_subs (f:=fun j=> !(L.getD j false)) T)
  rw[e2]at hz
  rw[e]at h
  exact ord_ok D.hE D.hF hK fuel ops.size L c w R _ a hs hc h hz
 intro fuel
 induction fuel with
 |zero=>
  intro L c w R a hs hc hL hM h2 h
  refine done 0 L c w R a hs hc h2 (fun j hj _=> ?_) h
  have hj':j<L.size:=by have:=D.le;omega
  rw[getD_of hj']
  cases hv:L[j]with
  |true=>rfl
  |false=>
   have:=unlisted hj' (by rw[getD_of hj',hv])
   omega
 |succ fuel ih=>
  intro L c w R a hs hc hL hM h2 h
  by_cases hall:∀j,j<p→mem T j=false→L.getD j false=true
  ·exact done (fuel+1) L c w R a hs hc h2 hall h
  ·--one that binds and has not come up
   have hex:∃j,j<p∧mem T j=false∧L.getD j false≠true:=by
    apply Classical.byContradiction
    intro hn
    exact hall fun j hj ht=>Classical.byContradiction fun hq=>hn ⟨j,hj,ht,hq⟩
   obtain⟨j1,hj1p,hj1T,hj1l⟩:=hex
   have hj1M:mem M j1=false:=by
    cases hm:mem M j1 with
    |false=>rfl
    |true=>exact absurd (hM j1 hm) hj1l
   have hmin:∃j,(j<p∧L.getD j false≠true)∧∀k,k<j→¬(k<p∧L.getD k false≠true):=by
    have hex:∃j,j<p∧L.getD j false≠true:=⟨j1,hj1p,hj1l⟩
    obtain⟨j,hj⟩:=hex
    induction j using Nat.strongRecOn with
    |_ j ihj=>
     by_cases hk:∃k,k<j∧(k<p∧L.getD k false≠true)
     ·obtain⟨k,h3,h4⟩:=hk
      exact ihj k h3 h4
     ·exact⟨j,hj,fun k h3 h4=>hk ⟨k,h3,h4⟩⟩
   obtain⟨j,⟨hjp,hjl⟩,hjm⟩:=hmin
   have hjs:j<L.size:=by have:=D.le;omega
   have hju:L.getD j true=false:=by
    rw[getD_of hjs]at hjl⊢
    cases hv:L[j]with
    |true=>rw[hv]at hjl;exact absurd rfl hjl
    |false=>rfl
   have hoj:ops[j]? =some ops[j]:=Array.getElem?_eq_getElem (by omega)
   have hrj:j∈Region.ready .any ops L:=by
    rw[mem_ready]
    refine⟨hju,_,hoj,fun e he hb=> ?_⟩
    have hlt:=D.edges j _ hoj e (Array.mem_toList_iff.2 he) hb
    apply Classical.byContradiction
    intro hq
    exact hjm e.on hlt ⟨by omega,hq⟩
   refine⟨fun hn=>(by rw[hn]at hrj;cases hrj),fun i hi=> ?_⟩
   obtain⟨hu,o,hio,he⟩:=mem_ready.1 hi
   have hilt:i<ops.size:=(Array.getElem?_eq_some_iff.1 hio).1
   have he':∀e∈o.after.toList,Region.binds .any e=true→L.getD e.on false=true:=fun e h3 h4=>he e (Array.mem_toList_iff.1 h3) h4
   have hip:i<p:=by
    rcases Nat.lt_or_ge i p with h'|h'
    ·exact h'
    ·have hb:BB bits i j1=true:=D.late i hilt h' j1 (by omega) hj1M hj1T
     exact absurd (D.bits_in hL i o hio he' j1 hb) hj1l
   have hiM:mem M i=false:=by
    cases hm:mem M i with
    |false=>rfl
    |true=>
     have:=hM i hm
     have hlt:i<L.size:=by omega
     rw[getD_of hlt]at hu this
     rw[hu]at this
     cases this
   refine any_step D hL hs hip hiM hio hu he' h fun c w R a h=> ?_
   have hcs:=count_set hu
   refine ih (L.setIfInBounds i true) c w R a (by simpa using hs) (by omega) (hL.set hio he') (fun k hk=>getD_set_true (hM k hk)) (fun k hk hk'=> ?_) h
   rw[getD_set_ne true (by omega)]
   exact h2 k hk hk'
theorem draw_any {KK:St→Ac→Option α}{c:Cc}{w:World}{R:Cls}{σ:St}{a:Act}(hE:EnvOk P E)(hF:∀n z,look F.io n=some z→n<1000)
 (g1:edgesOk 0 ops.toList=true) (g2:lateOk (M++T) (allBits [] ops.toList) p 0 ops.toList=true) (g3:p≤ops.size) (g4:∀j,mem M j=true→j<p) (g5:Region.noSelect ops=true) (g6:∀j,mem T j=true→j<p)
 (next:∀σ0 acc,Dr P E F rid ops M T (allBits [] ops.toList) p σ0 acc→KK σ0 acc=some z→∀(fuel:Nat) (L:Array Bool) (c:Cc) (w:World) (R:Cls) (a:Act),L.size=ops.size→L.toList.count false≤fuel→Closed ops L→(∀j,mem M j=true→L.getD j false=true)→
  (∀j,p≤j→j<ops.size→L.getD j true=false)→Rel F c w R (minSt σ0 (Ls L) acc) a→wpAny P .any ops (fun e a w=>match e with| .panic _=>False|e=>Q e a w) fuel L a w)
 (h:Rel F c w R σ a) (hz:takeM F.nt ops M (Array.replicate ops.size false) σ (fun σ=>runAny E F.nt rid ops M (allBits [] ops.toList) ⟨dropT (dstsOf M 0 (ops.toList.take p)) σ.tmps,σ.heap⟩ (ops.toList.take p) 0 [] fun acc=>KK ⟨dropT (dstsOf M 0 (ops.toList.take p)) σ.tmps,σ.heap⟩ acc)=some z):(Code.region rid ops true).wp P Q a w:=by
 have hedges:∀i o,ops[i]? =some o→∀e∈o.after.toList,Region.binds .any e=true→e.on<i:=by
  intro i o ho e he hb
  have:=edgesOk_spec g1 i o (by simpa using ho) e he hb
  omega
 obtain⟨hlen,hb⟩:=allBits_spec ops.toList [] [] rfl (fun i o h=>by simp at h) (fun i o ho e he hb=>by
  have:=hedges i o (by simpa using ho) e he hb
  simpa using this)
 simp only[List.nil_append]at hlen hb
 have hbl:∀i j,BB (allBits [] ops.toList) i j=true→j<i:=by
  intro i
  induction i using Nat.strongRecOn with
  |_ i ih=>
   intro j hj
   have hi:i<ops.size:=by
    rcases Nat.lt_or_ge i ops.size with h'|h'
    ·exact h'
    ·rw[BB,List.getD_eq_getElem?_getD,List.getElem?_eq_none (by rw[hlen];simpa using h')]at hj
     simp at hj
   obtain⟨e,_,_,h3,h4⟩:=hb i ops[i] (by simp[hi]) j hj
   rcases h4 with h4|h4
   ·omega
   ·have:=ih e.on h3 j h4
    omega
 refine wp_region_any hE.mixed (wpAny_weaken (Q:=fun e a w=>match e with| .panic _=>False|e=>Q e a w) (fun e a w hq=>by cases e<;>first|exact hq|exact hq.elim) _ _ _ _ ?_)
 refine take_ok g5 (fun c a w hq=>hq) M ops.size (Array.replicate ops.size false) c _ R σ a (by simp) ?_ ?_ h.drew hz ?_
 ·exact Nat.le_trans List.count_le_length (by simp)
 ·intro i o ho hl
  exfalso
  by_cases hi:i<ops.size
  ·simp[hi]at hl
  ·simp[hi]at hl
 intro fuel L c w R σ a hs hc hL hM hN h hz
 have hdst:∀k o,(ops.toList.take p)[k]? =some o→mem M (0+k)=false→∀d,o.dst=some d→look (dropT (dstsOf M 0 (ops.toList.take p)) σ.tmps) d=none:=by
  intro k o ho hm d hd
  rw[dropT_spec,if_pos (dstsOf_mem hd ho hm)]
 obtain⟨acc,k1,k2,k3,k4,k5⟩:=any_spec (σ:=⟨dropT (dstsOf M 0 (ops.toList.take p)) σ.tmps,σ.heap⟩) hbl (ops.toList.take p) 0 [] (fun j o hj=>by
  rw[List.getElem?_take]at hj
  split at hj
  ·simpa using hj
  ·exact no hj) hdst trivial ⟨fun x hx=>(by cases hx),fun x hx=>(by cases hx)⟩ (fun x hx=>by cases hx) (fun j hj=>by omega) hz
 have hlp:0+(ops.toList.take p).length=p:=by simp;omega
 rw[hlp]at k3 k4
 have D:Dr P E F rid ops M T (allBits [] ops.toList) p ⟨dropT (dstsOf M 0 (ops.toList.take p)) σ.tmps,σ.heap⟩ acc:={
  hE:=hE
  hF:=hF
  bspec:=fun i o ho j hj=>hb i o (by simpa using ho) j hj
  edges:=hedges
  late:=fun i hi hp j hj hm ht=>by
   have:=lateOk_spec g2 i (by simpa using hi) (by omega)
   rw[Nat.zero_add]at this
   refine allB_spec this j hj ?_
   cases hq:mem (M++T) j with
   |false=>rfl
   |true=>
    rcases List.mem_append.1 ((mem_iff _ _).1 hq)with h1|h1
    ·rw[(mem_iff _ _).2 h1]at hm;cases hm
    ·rw[(mem_iff _ _).2 h1]at ht;cases ht
  tlt:=g6
  sel:=g5
  mlt:=g4
  le:=g3
  chain:=k1
  base:=k2
  ent:=k3
  all:=k4
 }
 have hne:∀j,j<ops.size→mem M j=false→L.getD j true=false:=by
  intro j hj hm
  rw[hN j hm]
  simp[hj]
 refine next _ acc D k5 fuel L c w R a hs hc hL hM ?_ ?_
 ·intro j hjp hj
  refine hne j hj ?_
  cases hm:mem M j with
  |false=>rfl
  |true=>have:=g4 j hm;omega
 ·have e:minSt ⟨dropT (dstsOf M 0 (ops.toList.take p)) σ.tmps,σ.heap⟩ (Ls L) acc=minSt ⟨dropT (dstsOf M 0 (ops.toList.take p)) σ.tmps,σ.heap⟩ (fun _=>false) acc:=by
   refine minSt_same fun x hx=> ?_
   obtain⟨q1,hm,o,q2,_⟩:=k3 x hx
   have hlt:x.1<ops.size:=(Array.getElem?_eq_some_iff.1 q2).1
   have:=hne x.1 hlt hm
   rw[getD_of (by omega)]at this
   rw[Ls,getD_of (by omega),this]
  have e2:minSt ⟨dropT (dstsOf M 0 (ops.toList.take p)) σ.tmps,σ.heap⟩ (fun _=>false) acc=⟨dropT (dstsOf M 0 (ops.toList.take p)) σ.tmps,σ.heap⟩:=by
   have:=minSt_skip (σ:=⟨dropT (dstsOf M 0 (ops.toList.take p)) σ.tmps,σ.heap⟩) (b:=fun _=>false) (acc:=[]) (new:=acc) fun x hx=>rfl
   rw[List.append_nil]at this
   exact this
  rw[e,e2]
  refine Rel.less (σ:=σ) ⟨fun t av hl=> ?_,fun _ _ h=>h⟩ h
  have hl:look (dropT (dstsOf M 0 (ops.toList.take p)) σ.tmps) t=some av:=hl
  rw[dropT_spec]at hl
  split at hl
  ·exact no hl
  ·exact hl
theorem draw_ok {c:Cc}{w:World}{R:Cls}{σ:St}{a:Act}(hE:EnvOk P E)(hF:∀n z,look F.io n=some z→n<1000)(hK:KOk F K z (Q .normal))
 (h:Rel F c w R σ a) (hz:runDraw E F.nt rid ops p σ K=some z):(Code.region rid ops true).wp P Q a w:=by
 unfold runDraw at hz
 dsimp only at hz
 split at hz
 ·split at hz
  ·exact no hz
  ·rename_i hg
   simp only[Bool.and_eq_true]at hg
   obtain⟨⟨⟨⟨g1,g2⟩,g3⟩,g4⟩,g5⟩:=hg
   have g3:=Nat.le_of_ble_eq_true g3
   simp only[Array.length_toList]at g3
   refine draw_any (KK:=fun σ0 acc=>runOps E F.nt rid ops (ops.toList.drop p) p (minSt σ0 (fun _=>true) acc) K) hE hF g1 g2 g3 (allLt_spec g4) g5 (fun j hj=>(takes_spec hj).1) ?_ h hz
   intro σ0 acc D hz
   exact any_early (Q:=fun e a w=>match e with| .panic _=>False|e=>Q e a w) D rfl hz (fun σ c w R a h hz=>hK σ c w R a h hz) (fun c a w hq=>hq)
 ·rename_i f fs hfl
  split at hz
  ·split at hz
   ·rename_i hsel
    refine wp_region_any hE.mixed (wpAny_weaken (Q:=fun e a w=>match e with| .panic _=>False|e=>Q e a w) (fun e a w hq=>by cases e<;>first|exact hq|exact hq.elim) _ _ _ _ ?_)
    rw[falses_eq,ordQ_eq _ _ _ (by simp)]at hz
    exact ordP_ok (Q:=fun e a w=>match e with| .panic _=>False|e=>Q e a w) hE hF hsel (fun c a w hq=>hq) (fun σ c w R a h hz=>hK σ c w R a h hz) _ _ _ c _ R σ a (by simp) (Nat.le_trans List.count_le_length (by simp)) h.drew hz
   ·exact no hz
  split at hz
  ·exact no hz
  ·rename_i hg
   simp only[Bool.and_eq_true]at hg
   obtain⟨⟨⟨⟨⟨g1,g2⟩,g3⟩,g4⟩,g5⟩,g6⟩:=hg
   have g3:=Nat.le_of_ble_eq_true g3
   simp only[Array.length_toList]at g3
   refine draw_any (KK:=fun σ0 acc=>allU (fun U=>ordAny E F.nt rid ops ops.size (listedBut ops.size p U) (minSt σ0 (fun j=> !(mem U j)) acc) K) (subs (f::fs))) hE hF g1 g2 g3 (allLt_spec g4) g5 (allLt_spec g6) ?_ h hz
   intro σ0 acc D hz
   exact any_float (Q:=fun e a w=>match e with| .panic _=>False|e=>Q e a w) D (fun U hU=>allU_mem hz U hU) (fun σ c w R a h hz=>hK σ c w R a h hz)
end
abbrev encI :Int→Value:=Value.int .i64
theorem row_ints {w:World}{b:Nat}:∀{xs:List Int} {o:Nat} {fr:List Nat},rowOwn (fun(x:iT.den) o fp=>ETy.own w iT x b o fp) iT.len xs o fr↔fr=[]∧∀j (h:j<xs.length),w.cell? ⟨b,o+j,none⟩=some (encI xs[j])
 |[],o,fr=>⟨fun h=>⟨h,fun j h=>by simp at h⟩,fun h=>h.1⟩
 |x::xs,o,fr=>by
  constructor
  ·rintro⟨f1,f2,rfl,⟨v,hc,hv,rfl⟩,h2⟩
   obtain⟨rfl,h3⟩:=row_ints.1 h2
   refine⟨rfl,fun j h=> ?_⟩
   cases j with
   |zero=>
    rw[Nat.add_zero,hc,hv]
    rfl
   |succ j=>
    have:=h3 j (by simpa using h)
    rw[show o+(j+1)=o+iT.len+j by show o+(j+1)=o+1+j;omega]
    exact this
  ·rintro⟨rfl,h⟩
   refine⟨[],[],rfl,⟨encI x,?_,rfl,rfl⟩,row_ints.2 ⟨rfl,fun j hj=> ?_⟩⟩
   ·have:=h 0 (by simp)
    rw[Nat.add_zero]at this
    exact this
   ·have:=h (j+1) (by simpa using hj)
    rw[show o+iT.len+j=o+(j+1) by show o+1+j=o+(j+1);omega]
    exact this
section
variable {α:Type} {P:Program} {E:Env} {F:Fr} {c:Cc} {w:World} {R:Cls} {σ:St} {a:Act} {z:α}
theorem ints_set (h:Rel F c w R σ a){m b o p:Nat}{xs ys:List Int}(hm:look σ.heap m=some (.row iT true xs))(hb:c.at_ m=some (b,o))(hpf:prefFree m none σ=true)(hl:ys.length=xs.length){us:List Value}
 (hc:∀j (h:j<ys.length),(w.setCells b p us).cell? ⟨b,o+j,none⟩=some (encI ys[j])):Post F σ a ⟨.undef,[],[],[(m, .row iT true ys)]⟩ Go.undef (w.setCells b p us):=by
 obtain⟨k1,k2⟩:=look_set1 hm (e:= .row iT true ys) (av:= .undef) (ds:=[]) (by simp)
 obtain⟨r1,r2,r3⟩:=setC_rest (b:=b) us p w
 have hrow:=h.hp m _ hm
 simp only[Ent.rel,hb]at hrow
 obtain⟨fr,hfp,hbk,hro⟩:=hrow
 obtain⟨rfl,_⟩:=row_ints.1 hro
 have hbm:b∈c.fp m:=by rw[hfp];simp
 have hoth:∀k,k≠b→(w.setCells b p us).heap[k]? =w.heap[k]? :=fun k hk=>setC_other us _ hk
 have hRb:¬R b:=(h.nr m _ hm b hbm).1
 have hRs:∀k,R k→(w.setCells b p us).heap[k]? =w.heap[k]? :=fun k hk=>hoth k (fun e=>hRb (e▸hk))
 have hkk:∀n e,n≠m→look (newH σ ⟨.undef,[],[],[(m, .row iT true ys)]⟩) n=some e→look σ.heap n=some e:=by
  intro n e hn he
  rw[k2 n hn]at he
  simpa using he
 refine⟨c,R,?_,rfl⟩
 refine Rel.step (c':=c) (R':=R) (d:=⟨.undef,[],[],[(m, .row iT true ys)]⟩) h rfl (fun n e he hn=>by cases hn) (fun n _ hn=>⟨rfl,rfl⟩) ?_ (fun _ h=>h) ?_ ?_ ?_ (fun n hn=>absurd rfl hn) ?_ (by rw[setC_size];omega) (fun _ _ h=>h.setC') r1 r2 r3 (fun n e new _ _ hs=>by
  have hn:n=m:=look_one (by rw[hs];simp)
  subst hn
  rw[look_cons,if_pos rfl]at hs
  cases hs)
 ·intro k hk hd
  exact hoth k (fun e=>hd m _ hm (.inr (by simp[look_cons])) (e▸hbm))
 ·intro k hk
  exact⟨by rw[setC_size];exact h.rl k hk, .inl hk⟩
 ·intro n e' he' hn
  have hn':n=m:=by
   rcases hn with hn|hn
   ·exact absurd rfl hn
   ·exact look_one hn
  subst hn'
  rw[k1]at he'
  cases he'
  refine⟨?_,h.nd n _ hm,fun k hk=> ?_⟩
  ·simp only[Ent.rel,hb]
   refine⟨[],hfp,?_,row_ints.2 ⟨rfl,hc⟩⟩
   have hl':List.length (α:=iT.den) ys=List.length (α:=iT.den) xs:=hl
   rw[hl']
   exact hbk.setC
  ·exact⟨(h.nr n _ hm k hk).1, .inr ⟨n,_,hm, .inr (by simp[look_cons]),hk⟩⟩
 ·intro n e1 m' e2 hne _ _ hn1 hn2
  have:n=m:=by
   rcases hn1 with hn|hn
   ·exact absurd rfl hn
   ·exact look_one hn
  have:m'=m:=by
   rcases hn2 with hn|hn
   ·exact absurd rfl hn
   ·exact look_one hn
  omega
 ·intro l v hl' _ hv
  refine Lf.rel_row (c':=c) hm k1 hl rfl (fun n e hn he=>⟨hkk n e hn he,rfl⟩) (fun n e hn hle b' o' hb'=>hoth b' (fun e'=>h.dj n _ m _ hn hle hm b' (at_fp h hle hb') (e'▸hbm))) (fun _ _ h=>h.setC') hRs (fun _ h=>h) l v (fun i' j' e b' o' hb'=> ?_) hv
  subst e
  have hl':σ.has (.pref m i' j'):=hl'.resolve_right (by rintro⟨p,z,_,e|e⟩<;>cases e)
  obtain⟨q,hq,_⟩:=prefFree_spec hpf hl'
  cases hq
theorem zero_cells {u:Value}{n:Nat}{zc:Array Value}(h:zc= #[u]):(Builtin.zeroCells zc n).toList=List.replicate n u:=by
 subst h
 simp[Builtin.zeroCells]
 apply List.ext_getElem
 ·simp
 ·intro i h1 h2
  simp[Nat.mod_one]
theorem run_clear {t e ty:TypeId}{z0 u:Value}(ht:P.underlying t=some (.slice e))(hv:(zeroValue e).run P w= .ok z0 w)(hz:z0.cells= #[u])(h1:u.oneCell'=true){b o n c:Nat}(hn:0<n)
 (hc:∀j,j<n→(w.cell? ⟨b,o+j,none⟩).isSome=true) (hf:∀j,j<n→w.frozen? ⟨b,o+j,none⟩=false):
 (Builtin.clear_ #[t] ty #[.slice (some ⟨b,o,none⟩) n c]).run P w= .ok (.tuple #[]) (w.setCells b o (List.replicate n u)):=by
 have hst:=run_storeCells_cells (P:=P) b o (List.replicate n u) 0 w (by simpa using hc) (by simpa using hf) (by intro v hv';rw[List.eq_of_mem_replicate hv'];exact h1)
 simp only[Nat.add_zero]at hst
 obtain⟨m,rfl⟩:∃m,n=m+1:=⟨n-1,by omega⟩
 simp[Builtin.clear_,run_underlying ht,hv,zero_cells hz,hst]
theorem clr2_some {l:List Oper}{t d:Nat}{x lo:Operand}(h:clr2 l=some (t,x,lo,d)):
 ∃o1 o2 cl,l=[o1,o2]∧o1.op= .slice t x (some lo) none none∧o1.dst=some d∧o1.guard=none∧o2.op= .call cl∧o2.dst=none∧o2.guard=none∧cl.callee= .builtin .clear∧cl.args.toList=[.tmp d]∧cl.argTypes.toList=[t]:=by
 unfold clr2 at h
 split at h
 ·rename_i o1 o2
  split at h
  ·rename_i t0 x0 lo0 d0 cl h1 h2 h3 h4
   split at h
   ·rename_i d' h5 h6 h7 h8
    split at h
    ·rename_i t' h9
     split at h
     ·rename_i hq
      simp only[Bool.and_eq_true]at hq
      have e1:=Nat.eq_of_beq_eq_true hq.1
      have e2:=Nat.eq_of_beq_eq_true hq.2
      subst e1;subst e2
      cases h
      exact⟨o1,o2,cl,rfl,h1,h2,h3,h4,h5,h6,h7,h8,h9⟩
     ·exact no h
    ·exact no h
   ·exact no h
  ·exact no h
 ·exact no h
theorem clrOf_some :∀{l p:List Oper} {q:Nat×Operand×Operand×Nat},clrOf l=some (p,q)→∃s,l=p++s∧clr2 s=some q
 |[],p,q,h=>no h
 |o::r,p,q,h=>by
  unfold clrOf at h
  split at h
  ·rename_i q' hq
   cases h
   exact⟨_,rfl,hq⟩
  ·split at h
   ·rename_i p' q' hq
    cases h
    obtain⟨s,h1,h2⟩:=clrOf_some hq
    exact⟨s,by rw[h1];rfl,h2⟩
   ·exact no h
theorem pre_ok (hE:EnvOk P E)(hF:∀n z,look F.io n=some z→n<1000){rid:Nat}{ops:Array Oper}{K:St→Option α}{Q:Exit→Act→World→Prop}{rest:List Nat}(hK:KOk F K z (wpOps P ops Q rest)):
 ∀(l:List Oper) (i:Nat) (c:Cc) (w:World) (R:Cls) (σ:St) (a:Act),(∀j o,l[j]? =some o→ops[i+j]? =some o)→Rel F c w R σ a→runOps E F.nt rid ops l i σ K=some z→wpOps P ops Q (List.range' i l.length++rest) a w
 |[],i,c,w,R,σ,a,hl,h,hz=>hK σ c w R a h hz
 |o::r,i,c,w,R,σ,a,hl,h,hz=>by
  have ho:ops[i]? =some o:=hl 0 o rfl
  have hr:∀j o,r[j]? =some o→ops[i+1+j]? =some o:=fun j o hj=>by
   rw[show i+1+j=i+(j+1) by omega]
   exact hl (j+1) o (by simpa using hj)
  rw[List.length_cons,List.range'_succ,List.cons_append,wpOps_cons]
  exact op_step hE hF ho (fun σ c w R a h hz=>pre_ok hE hF hK r (i+1) c w R σ a hr h hz) h hz
theorem Rel.forgetT (h:Rel F c w R σ a)(ds:List Nat):Rel F c w R ⟨dropT ds σ.tmps,σ.heap⟩ a:=by
 refine{h with tm:= ?_}
 intro t av ht
 rw[show look (St.mk (dropT ds σ.tmps) σ.heap).tmps t=look (dropT ds σ.tmps) t from rfl,dropT_spec]at ht
 by_cases e:t∈ds
 ·rw[if_pos e]at ht;cases ht
 ·rw[if_neg e]at ht;exact h.tm t av ht
theorem clr_core (hE:EnvOk P E){ops:Array Oper}{K:St→Option α}{Q:Exit→Act→World→Prop}{t d m e:Nat}{x lo:Operand}{o1 o2:Oper}{cl:Call}{i:Int}{i1 j:TI}{xs:List Int}(hK:KOk F K z (Q .normal))(h:Rel F c w R σ a)
 {n0:Nat} (e0:ops[n0]? =some o1) (e1:ops[n0+1]? =some o2) (h1:o1.op= .slice t x (some lo) none none) (h2:o1.dst=some d) (h3:o1.guard=none) (h4:o2.op= .call cl) (h5:o2.dst=none) (h6:o2.guard=none) (h7:cl.callee= .builtin .clear) (h8:cl.args.toList=[.tmp d]) (h9:cl.argTypes.toList=[t])
 (hx:σ.eval x=some (.v false [.ref m])) (hlo:σ.eval lo=some (.v false [.val (.int .i64 i)])) (hm:look σ.heap m=some (.row iT true xs)) (g1:clrTy j=true) (g2:d<F.nt) (g3:prefFree m none σ=true) (hi0:0≤i) (hi1:i<(xs.length:Int))
 (hti:E.ty t=some i1) (hk:i1.k= .sl e) (hj:E.ty e=some j) (hz:K ⟨dropT [d] σ.tmps,sets σ.heap [(m, .row iT true (xs.take i.toNat++List.replicate (xs.length-i.toNat) (0:Int):List Int))]⟩=some z):wpOps P ops Q [n0,n0+1] a w:=by
 obtain⟨dd,hu,_,_,_,hsl,_⟩:=(hE.ty t i1 hti).und
 have hu:P.underlying t=some (.slice e):=by rw[hu,hsl e hk]
 have hje:=hE.ty e j hj
 have hzj:j.zero=[.val (.int .i64 0)]:=by
  unfold clrTy at g1
  split at g1
  ·rename_i k n hzz
   simp only[Bool.and_eq_true,decide_eq_true_eq]at g1
   rw[hzz,g1.1,g1.2]
  ·cases g1
 have hxv:(Lf.ref m).rel c w R σ.heap (a.eval x):=V1.one (eval_rel h hx)
 have hlv:a.eval lo= .int .i64 i:=V1.one (eval_rel h hlo)
 have hxv:=hxv _ _ _ hm
 cases hat:c.at_ m with
 |none=>
  have he:=h.hp m _ hm
  simp only[Ent.rel,hat]at he
  have he1:xs=[]:=he.1
  subst he1
  exact absurd hi1 (by simp;omega)
 |some bo=>
 obtain⟨b,o⟩:=bo
 rw[hat]at hxv
 obtain⟨cp,hxv,hfit,hbc⟩:=hxv
 have hxv:a.eval x= .slice (some ⟨b,o,none⟩) xs.length cp:=hxv
 have hfit:fits xs.length cp:=hfit
 obtain⟨n,rfl⟩:∃n:Nat,i=n:=⟨i.toNat,by omega⟩
 have hn:n<xs.length:=by omega
 have hcp:xs.length≤cp:=hfit.1
 have hs:=sliceAt_run (P:=P) (w:=w) (t:=t) (ad:=some ⟨b,o,none⟩) (len:=xs.length) (cap:=cp) (lo:=some (n:Int)) (hi:=none) (lv:=some (.int .i64 n)) (hv:=none) hu hje ⟨_,rfl⟩ trivial (by simp) (by simpa using Nat.le_of_lt hn) (by simpa using hcp)
 have hsl1:(execOp a.eval o1).run P w= .ok (.value (.slice (some ⟨b,o+n,none⟩) (xs.length-n) (cp-n))) w:=by
  have hne:¬cp=n:=by omega
  have hs:(Instr.sliceAt t (.slice (some ⟨b,o,none⟩) xs.length cp) (some (.int .i64 n)) none none).run P w= .ok (.slice (some ⟨b,o+n,none⟩) (xs.length-n) (cp-n)) w:=by
   rw[hs]
   simp[hne,hzj,Addr.add]
  simp[execOp,h1,hlv,hxv,hs]
 let a1:=a.put (some d) (.slice (some ⟨b,o+n,none⟩) (xs.length-n) (cp-n))
 have hrow:=h.hp m _ hm
 simp only[Ent.rel,hat]at hrow
 obtain⟨fr,hfp,hbk,hro⟩:=hrow
 obtain⟨rfl,hcell⟩:=row_ints.1 hro
 have hbl:blk w b (o+xs.length):=by
  have e:o+List.length (α:=iT.den) xs*iT.len=o+xs.length:=by
   show o+xs.length*1=_
   omega
  rw[e]at hbk
  exact hbk
 obtain⟨z0,hzv,hzl,hzr,hz1,_⟩:=run_zeroValue (w:=w) hje
 have hz0:z0.cells= #[encI 0]:=by
  have hr:=hzr c w R σ.heap
  rw[hzj]at hr
  match hzc:z0.cells.toList,hr with
  |[v],hr=>
   have hv:v=encI 0:=hr.1
   subst hv
   exact Array.toList_inj.1 (by simpa using hzc)
  |[],hr=>exact hr.elim
  |_::_::_,hr=>exact hr.2.elim
 have hclr:(execOp a1.eval o2).run P w= .ok (.value (.tuple #[])) (w.setCells b (o+n) (List.replicate (xs.length-n) (encI 0))):=by
  have hr:=run_clear (P:=P) (w:=w) (ty:=o2.type) hu hzv hz0 rfl (b:=b) (o:=o+n) (n:=xs.length-n) (c:=cp-n) (by omega) (fun j hj=>hbl.cell (by omega)) (fun j hj=>hbl.frozen (by omega))
  have hev:a1.eval (.tmp d)= .slice (some ⟨b,o+n,none⟩) (xs.length-n) (cp-n):=by
   have hd:d<a.tmps.size:=by rw[h.nt];exact g2
   simp[a1,Act.eval,Act.put,Array.getD_eq_getD_getElem?,hd]
  have ha1:cl.args= #[.tmp d]:=Array.toList_inj.1 (by simpa using h8)
  have ha2:cl.argTypes= #[t]:=Array.toList_inj.1 (by simpa using h9)
  simp[execOp,h4,h7,ha1,ha2,resolve,hev,invoke,builtin,hr]
 have hcl:∀j (hj:j<(xs.take n++List.replicate (xs.length-n) (0:Int)).length),(w.setCells b (o+n) (List.replicate (xs.length-n) (encI 0))).cell? ⟨b,o+j,none⟩=some (encI (xs.take n++List.replicate (xs.length-n) (0:Int))[j]):=by
  intro j hj
  have hj':j<xs.length:=by simp at hj;omega
  by_cases hjn:j<n
  ·rw[World.cell?_setCells_out b _ (o+n) w ⟨b,o+j,none⟩ (fun _ _=>by simp;omega),hcell j hj']
   rw[List.getElem_append_left (by simp;omega)]
   simp
  ·have:=cells_setC_in (vs:=List.replicate (xs.length-n) (encI 0)) (o:=o+n) hbl (by simp;omega) (j-n) (encI 0) (by rw[List.getElem?_replicate];simp;omega)
   rw[show o+n+(j-n)=o+j by omega]at this
   rw[this,List.getElem_append_right (by simp;omega)]
   simp
 have hp:=ints_set (p:=o+n) h hm hat g3 (ys:=xs.take n++List.replicate (xs.length-n) (0:Int)) (by simp;omega) hcl
 obtain⟨c',R',hp,_⟩:=hp
 have hrel:Rel F c' (w.setCells b (o+n) (List.replicate (xs.length-n) (encI 0))) R' ⟨dropT [d] σ.tmps,sets σ.heap [(m, .row iT true (xs.take n++List.replicate (xs.length-n) (0:Int):List Int))]⟩ a1:=by
  have hp:=Rel.forgetT hp [d]
  have e:newH σ ⟨.undef,[],[],[(m, .row iT true (xs.take n++List.replicate (xs.length-n) (0:Int):List Int))]⟩=sets σ.heap [(m, .row iT true (xs.take n++List.replicate (xs.length-n) (0:Int):List Int))]:=by
   simp[newH,drop_nil]
  rw[e]at hp
  refine{hp with tm:= ?_,nt:= ?_}
  ·intro s av hl
   have hsd:s≠d:=by
    rintro rfl
    rw[show look (St.mk (dropT [s] σ.tmps) _).tmps s=look (dropT [s] σ.tmps) s from rfl,dropT_spec]at hl
    simp at hl
   obtain⟨v,hv1,hv2⟩:=hp.tm s av hl
   refine⟨v,?_,hv2⟩
   simp[a1,Act.put,Array.getElem?_setIfInBounds,Ne.symm hsd,hv1]
  ·have:=hp.nt
   simpa [a1,Act.put]using this
 have hfin:=hK _ c' _ R' _ hrel (by simpa using hz)
 rw[wpOps_cons]
 simp only[wpOp,e0,Region.wanted,h3,if_true]
 refine .inl ?_
 have d1:Does P o1 a w fun v w'=>v= .slice (some ⟨b,o+n,none⟩) (xs.length-n) (cp-n)∧w'=w:=Does.run hsl1 ⟨rfl,rfl⟩
 refine d1 _ Q ?_
 rintro v w' ⟨rfl,rfl⟩
 rw[h2,wpOps_cons]
 simp only[wpOp,e1,Region.wanted,h6,if_true]
 refine .inl ?_
 have d2:Does P o2 a1 w' fun v w2=>w2=w'.setCells b (o+n) (List.replicate (xs.length-n) (encI 0)):=Does.run hclr rfl
 refine d2 _ Q ?_
 rintro v w2 rfl
 rw[h5]
 exact hfin
theorem clr_ok (hE:EnvOk P E)(hF:∀n z,look F.io n=some z→n<1000){rid:Nat}{ops:Array Oper}{K:St→Option α}{Q:Exit→Act→World→Prop}{p:List Oper}{q:Nat×Operand×Operand×Nat}(hq:clrOf ops.toList=some (p,q))(hK:KOk F K z (Q .normal))
 (h:Rel F c w R σ a) (hz:runOps E F.nt rid ops p 0 σ (fun σ=>clrRun E F.nt σ K q)=some z):(Code.region rid ops false).wp P Q a w:=by
 obtain⟨s,hs,hq⟩:=clrOf_some hq
 obtain⟨t,x,lo,d⟩:=q
 obtain⟨o1,o2,cl,hops,h1,h2,h3,h4,h5,h6,h7,h8,h9⟩:=clr2_some hq
 subst hops
 have hsz:ops.size=p.length+2:=by rw[←Array.length_toList,hs];simp
 have e0:ops[p.length]? =some o1:=by rw[←Array.getElem?_toList,hs];simp
 have e1:ops[p.length+1]? =some o2:=by rw[←Array.getElem?_toList,hs];simp
 refine wp_region ?_
 rw[hsz,List.range_eq_range',show List.range' 0 (p.length+2)=List.range' 0 p.length++[p.length,p.length+1] by rw[←List.range'_append_1];simp[List.range']]
 refine pre_ok hE hF ?_ p 0 c w R σ a (fun j o hj=>by
  rw[Nat.zero_add,←Array.getElem?_toList,hs]
  rw[List.getElem?_append_left (List.getElem?_eq_some_iff.1 hj).1]
  exact hj) h hz
 clear hz h
 intro σ c w R a h hz
 unfold clrRun at hz
 dsimp only at hz
 split at hz
 case h_2=>exact no hz
 rename_i j m i hj hx hlo
 split at hz
 case h_2=>exact no hz
 rename_i T xs hm hg
 simp only[Bool.and_eq_true,Nat.blt_eq]at hg
 obtain⟨⟨g1,g2⟩,g3⟩:=hg
 split at hz
 case h_2=>exact no hz
 rename_i ys hys
 obtain⟨eT,hys⟩:=ETy.casts?_some hys
 subst eT
 have hys:xs=ys:=hys
 subst hys
 obtain⟨hi0,hi1,hi2,hz⟩:=bound_some hz
 obtain⟨i1,hti,hj⟩:=Option.bind_eq_some_iff.1 hj
 unfold tyE at hj
 split at hj
 case h_2=>exact no hj
 rename_i e hk
 exact clr_core hE hK h e0 e1 h1 h2 h3 h4 h5 h6 h7 h8 h9 hx hlo hm g1 g2 g3 hi0 hi2 hti hk hj hz
end
section
variable {F:Fr} {c:Cc} {w:World} {R:Cls} {σ τ:St} {a:Act}
theorem Rel.forget (h:Rel F c w R σ a)(n:Nat){e:Ent}(hn:look σ.heap n=some e):Rel F c w (fun b=>R b∨b∈c.fp n) ⟨σ.tmps,drop σ.heap [n]⟩ a:=by
 have:=Rel.step (c':=c) (w':=w) (R':=fun b=>R b∨b∈c.fp n) (d:=⟨.undef,[],[n],[]⟩) h rfl (fun n e hn=>by cases hn) (fun _ _ _=>⟨rfl,rfl⟩) (fun _ _ _=>rfl) (fun _ h=> .inl h) ?_ ?_ ?_ ?_ ?_ (Nat.le_refl _) (fun _ _ h=>h) rfl rfl rfl (fun n e new _ _ hs=>by simp[look]at hs)
 ·have e:newH σ ⟨.undef,[],[n],[]⟩=drop σ.heap [n]:=by unfold newH;rw[sets_nil];rfl
  rw[e]at this
  exact this
 ·intro b hb
  rcases hb with hb|hb
  ·exact⟨h.rl b hb, .inl hb⟩
  ·exact⟨Ent.lt (h.hp n e hn) b hb, .inr (.inr ⟨n,e,hn, .inl (by simp),hb⟩)⟩
 ·intro n e _ hn
  rcases hn with hn|hn<;>exact absurd rfl hn
 ·intro n e m e' _ _ _ hn
  rcases hn with hn|hn<;>exact absurd rfl hn
 ·intro n hn
  exact absurd rfl hn
 ·intro l v _ hs
  obtain⟨n,hn,_⟩:=hs
  exact absurd rfl hn
theorem says_ref {n m:Nat}(h:(Lf.ref n).says m=true):m=n:=by
 unfold Lf.says at h
 first|exact Nat.eq_of_beq_eq_true h|exact(Nat.eq_of_beq_eq_true h).symm
theorem frzLeaf_ok (h:Rel F c w R σ a){n j:Nat}(hz:frzLeaf σ n j=some τ):∃R',Rel F c w R' τ a:=by
 unfold frzLeaf at hz
 split at hz
 case h_2=>exact no hz
 rename_i ls hn
 split at hz
 case h_3=>exact no hz
 case h_2=>cases hz;exact⟨R,h⟩
 rename_i m hj
 split at hz
 case h_2=>exact no hz
 rename_i T d xs hm
 split at hz
 case h_2=>exact no hz
 rename_i x hx
 cases hz
 have hne:n≠m:=by rintro rfl;rw[hn]at hm;cases hm
 obtain⟨b,vs,e,q1,q2,q3,q4⟩:=h.hp n _ hn
 obtain⟨v,hv,hlv⟩:=q4.get j _ hj
 have hro:(Sg.sl T x).ro w (fun b=>R b∨b∈c.fp m) v:=frzR_ro (t:= .sl T) h (fun b hb=> .inl hb) (fun k e hk he b hb=>by
  have:k=m:=says_ref hk
  subst this
  exact .inr hb) hx hlv
 have h2:=h.forget m hm
 have hn2:look (drop σ.heap [m]) n=some (.box ls):=by rw[look_drop,if_neg (by simp[hne])];exact hn
 generalize hH1:drop σ.heap [m]=H1 at h2 hn2⊢
 have hlk:∀k,look (sets H1 [(n,Ent.box (ls.set j (.val (.sl T x))))]) k=if k=n then some (.box (ls.set j (.val (.sl T x))))else look H1 k:=by
  intro k
  rw[look_sets]
  by_cases ek:k=n
  ·subst ek
   rw[if_pos rfl,hn2,look_cons,if_pos rfl]
  ·rw[if_neg ek,look_cons,if_neg ek]
   cases look H1 k<;>rfl
 have hleaf:∀(l:Lf) (u:Value),l.rel c w (fun b=>R b∨b∈c.fp m) H1 u→l.rel c w (fun b=>R b∨b∈c.fp m) (sets H1 [(n,Ent.box (ls.set j (.val (.sl T x))))]) u:=by
  intro l u hu
  refine Lf.rel_sets (fun _ _=>rfl) (fun _ h=>h) (fun _ _ h=>h) l u (fun k e' _ he'=> ?_) (fun _ _ _ _ _ _ _ _ _ _ _ _=>rfl) hu
  rw[hlk]at he'
  by_cases ek:k=n
  ·subst ek
   rw[if_pos rfl]at he'
   cases he'
   exact⟨_,hn2,trivial,rfl⟩
  ·rw[if_neg ek]at he'
   exact⟨e',he',sameKind_refl e',rfl⟩
 have hex:∀k e',look (sets H1 [(n,Ent.box (ls.set j (.val (.sl T x))))]) k=some e'→∃e0,look H1 k=some e0:=by
  intro k e' he'
  rw[hlk]at he'
  by_cases ek:k=n
  ·subst ek;exact⟨_,hn2⟩
  ·rw[if_neg ek]at he';exact⟨_,he'⟩
 refine⟨_,{h2 with tm:= ?_,hp:= ?_,nd:= ?_,dj:= ?_,nr:= ?_,io:= ?_,kc:= ?_}⟩
 ·intro t av ht
  obtain⟨u,k1,k2⟩:=h2.tm t av ht
  exact⟨u,k1,AV.rel_imp (fun l u _ hu=>hleaf l u hu) k2⟩
 ·intro k e' he'
  rw[hlk]at he'
  by_cases ek:k=n
  ·subst ek
   rw[if_pos rfl]at he'
   cases he'
   obtain⟨b2,vs2,e2,r1,r2,r3,r4⟩:=h2.hp k _ hn2
   rw[q1]at r1
   cases r1
   rw[q3]at r3
   cases r3
   refine⟨b,vs,e,q1,q2,q3,All2.of_get (by rw[List.length_set];exact r4.length) fun i l u hl hu=> ?_⟩
   by_cases ei:i=j
   ·subst ei
    have hlt:=(List.getElem?_eq_some_iff.1 hj).1
    rw[List.getElem?_set_self hlt]at hl
    cases hl
    rw[hv]at hu
    cases hu
    exact hro
   ·rw[List.getElem?_set_ne (Ne.symm ei)]at hl
    obtain⟨u',hu',hq⟩:=r4.get i l hl
    rw[hu]at hu'
    cases hu'
    exact hleaf l u hq
  ·rw[if_neg ek]at he'
   have r:=h2.hp k e' he'
   cases e' with
   |box ms=>
    obtain⟨b2,vs2,e2,r1,r2,r3,r4⟩:=r
    exact⟨b2,vs2,e2,r1,r2,r3,r4.mono hleaf⟩
   |row T2 d2 ys=>cases d2<;>exact r
 ·intro k e' he'
  obtain⟨e0,h0⟩:=hex k e' he'
  exact h2.nd k e0 h0
 ·intro k e' k' e'' hkk he' he''
  obtain⟨e0,h0⟩:=hex k e' he'
  obtain⟨e1,h1⟩:=hex k' e'' he''
  exact h2.dj k e0 k' e1 hkk h0 h1
 ·intro k e' he'
  obtain⟨e0,h0⟩:=hex k e' he'
  exact h2.nr k e0 h0
 ·intro p v hp
  obtain⟨k1,k2⟩:=h2.io p v hp
  exact⟨hleaf _ _ k1,hleaf _ _ k2⟩
 ·intro p v hp ms hms i hi
  rw[hlk]at hms
  by_cases ek:p=n
  ·subst ek
   rw[if_pos rfl]at hms
   cases hms
   obtain⟨⟨g,g1,g2⟩,k2⟩:=h2.kc p v hp ls hn2 i hi
   have ei:i≠j:=by rintro rfl;rw[hj]at g1;cases g1
   exact⟨⟨g,by rw[List.getElem?_set_ne (Ne.symm ei)];exact g1,g2⟩,k2⟩
  ·rw[if_neg ek]at hms
   exact h2.kc p v hp ms hms i hi
theorem frzLeaves_ok {n:Nat}:∀{j:Nat} {R:Cls} {σ:St},Rel F c w R σ a→frzLeaves n j σ=some τ→∃R',Rel F c w R' τ a
 |0,R,σ,h,hz=>by cases hz;exact⟨R,h⟩
 |j+1,R,σ,h,hz=>by
  unfold frzLeaves at hz
  split at hz
  ·rename_i τ' h1
   obtain⟨R',h'⟩:=frzLeaf_ok h h1
   exact frzLeaves_ok h' hz
  ·exact no hz
theorem frzSt_ok (h:Rel F c w R σ a){s:Nat}(hz:frzSt σ s=some τ):∃R',Rel F c w R' τ a:=by
 unfold frzSt at hz
 split at hz
 ·split at hz
  ·exact frzLeaves_ok h hz
  ·exact no hz
 ·rename_i n hl
  split at hz
  ·rename_i T d xs hn
   split at hz
   ·rename_i x hx
    cases hz
    obtain⟨v,hv1,hv2⟩:=h.tm s _ hl
    have hv3:(Lf.ref n).rel c w R σ.heap v:=V1.one hv2
    have hro:(Sg.sl T x).ro w (fun b=>R b∨b∈c.fp n) v:=frzR_ro (t:= .sl T) h (fun b hb=> .inl hb) (fun m e hm he b hb=>by
     have:m=n:=says_ref hm
     subst this
     exact .inr hb) hx hv3
    have h2:=h.forget n hn
    refine⟨_,{h2 with tm:= ?_}⟩
    intro t av ht
    rw[look_cons]at ht
    split at ht
    ·rename_i e
     cases ht
     subst e
     exact⟨v,hv1,⟨_,rfl,hro⟩⟩
    ·exact h2.tm t av ht
   ·exact no hz
  ·exact no hz
 ·cases hz
  exact⟨R,h⟩
 ·exact no hz
theorem frzAll_ok :∀{l:Cv} {c:Cc} {R:Cls} {σ:St},Rel F c w R σ a→frzAll l σ=some τ→∃R',Rel F c w R' τ a
 |[],c,R,σ,h,hz=>by
  cases hz
  exact⟨R,h⟩
 |(k,T,d)::r,c,R,σ,h,hz=>by
  unfold frzAll at hz
  split at hz
  ·split at hz
   ·rename_i τ' hs
    obtain⟨R',h'⟩:=frzSt_ok h hs
    exact frzAll_ok h' hz
   ·exact no hz
  ·exact frzAll_ok h hz
end
structure PairOk (ρ:List (Nat×Nat)):Prop where
 nd:(ρ.map (·.1)).Nodup
 ge:∀p∈ρ,p.1=p.2∨1000≤p.2
theorem look_none_mem {α:Type}:∀{l:List (Nat×α)} {n:Nat},look l n=none→n∉l.map (·.1)
 |[],n,_=>by simp
 |(m,x)::l,n,h=>by
  rw[look_cons]at h
  by_cases e:n=m
  ·rw[if_pos e]at h;cases h
  ·rw[if_neg e]at h
   have:=look_none_mem h
   simp only[List.map_cons,List.mem_cons,not_or]
   exact⟨e,this⟩
theorem addPair_ok {ρ:List (Nat×Nat)}{n m:Nat}(h:PairOk ρ)(hm:n=m∨1000≤m):PairOk (addPair ρ n m):=by
 unfold addPair
 cases hl:look ρ n with
 |some x=>exact h
 |none=>
  refine⟨?_,?_⟩
  ·rw[List.map_append,List.nodup_append]
   refine⟨h.nd,by simp,?_⟩
   intro a ha b hb e
   simp at hb
   subst hb;subst e
   exact look_none_mem hl ha
  ·intro p hp
   rcases List.mem_append.1 hp with hp|hp
   ·exact h.ge p hp
   ·simp at hp
    subst hp
    exact hm
theorem nmT_ge (rid s q:Nat):1000≤nmT rid s q:=by unfold nmT;omega
theorem nmB_ge (n j:Nat):1000≤nmB n j:=by unfold nmB;omega
theorem pairsBox_ok {n:Nat}:∀{ls:List Lf} {j:Nat} {ρ:List (Nat×Nat)},PairOk ρ→PairOk (pairsBox n j ls ρ)
 |[],_,_,h=>h
 |l::r,j,ρ,h=>by
  cases l with
  |ref m=>exact pairsBox_ok (ls:=r) (addPair_ok h (.inr (nmB_ge n j)))
  |_=>exact pairsBox_ok (ls:=r) h
theorem pairsBoxes_ok {H:Hp}:∀{ns:List Nat} {ρ:List (Nat×Nat)},PairOk ρ→PairOk (pairsBoxes H ns ρ)
 |[],_,h=>h
 |n::ns,ρ,h=>by
  unfold pairsBoxes
  dsimp only
  refine pairsBoxes_ok (ns:=ns) ?_
  split
  ·exact pairsBox_ok (addPair_ok h (.inl rfl))
  ·exact addPair_ok h (.inl rfl)
theorem pairsLs_ok {H:Hp}{rid s:Nat}:∀{ls:List Lf} {q:Nat} {ρ:List (Nat×Nat)},PairOk ρ→PairOk (pairsLs H rid s q ls ρ)
 |[],_,_,h=>h
 |l::r,q,ρ,h=>by
  cases l with
  |ref n=>
   refine pairsLs_ok (ls:=r) (addPair_ok h ?_)
   cases Nat.blt n 1000 with
   |true=>exact .inl rfl
   |false=>exact .inr (nmT_ge rid s q)
  |ptr n off=>exact pairsLs_ok (ls:=r) (pairsBoxes_ok h)
  |fnl f caps=>exact pairsLs_ok (ls:=r) (pairsBoxes_ok h)
  |_=>exact pairsLs_ok (ls:=r) h
theorem pairs_ok {σ:St}{rid:Nat}:∀{L:List Nat} {ρ:List (Nat×Nat)},PairOk ρ→PairOk (pairs σ rid L ρ)
 |[],_,h=>h
 |s::r,ρ,h=>by
  unfold pairs
  refine pairs_ok (L:=r) ?_
  split
  ·exact pairsLs_ok h
  ·exact h
def CvRow (cv:Cv)(p:Nat×Ent):Prop:=∃T d,look cv p.1=some (T,d)∧p.2= .row T d []∧1000≤p.1
theorem cvRows_spec {cv:Cv}{name:Nat→Nat}(hn:∀q,1000≤name q):∀{ls:List Lf} {q:Nat},∀p∈cvRows cv name q ls,CvRow cv p
 |[],_,p,hp=>by cases hp
 |l::r,q,p,hp=>by
  unfold cvRows at hp
  rcases List.mem_append.1 hp with hp|hp
  ·split at hp
   ·rename_i T d h1 h2
    simp at hp
    subst hp
    exact⟨T,d,h2,rfl,hn q⟩
   ·cases hp
  ·exact cvRows_spec hn p hp
def Wants (cv:Cv)(name:Nat→Nat)(q:Nat)(ls:List Lf)(H:Hp):Prop:=∀p∈cvRows cv name q ls,p∈H
theorem renHeap_spec {H:Hp}{ρ:List (Nat×Nat)}{cv:Cv}:∀{l:List (Nat×Nat)} {a b:Hp},renHeap H ρ cv l=some (a,b)→
 keys a=seconds l∧(∀p∈b,CvRow cv p)∧∀n m,(n,m)∈l→((∃ls,look H n=some (.box ls)∧(m,Ent.box (renLs ρ cv (nmB n) 0 ls))∈a∧Wants cv (nmB n) 0 ls b)∨∃T d xs,look H n=some (.row T d xs)∧(m,Ent.row T d xs)∈a)
 |[],a,b,h=>by
  have h:=Option.some.inj h
  injection h with h1 h2
  subst h1;subst h2
  exact⟨rfl,fun p hp=>(by cases hp),fun n m hm=>(by cases hm)⟩
 |(n,m)::r,a,b,h=>by
  unfold renHeap at h
  split at h
  ·rename_i ls a' b' hl hr
   have h:=Option.some.inj h
   injection h with h1 h2
   subst h1;subst h2
   obtain⟨k1,k2,k3⟩:=renHeap_spec hr
   refine⟨by simp[keys,seconds,k1],?_,?_⟩
   ·intro p hp
    rcases List.mem_append.1 hp with hp|hp
    ·exact cvRows_spec (fun q=>nmB_ge n q) p hp
    ·exact k2 p hp
   ·intro n' m' hm
    rcases List.mem_cons.1 hm with e|hm
    ·cases e
     exact .inl ⟨ls,hl,by simp,fun p hp=>List.mem_append.2 (.inl hp)⟩
    ·rcases k3 n' m' hm with⟨ls',q1,q2,q3⟩|⟨T,d,xs,q1,q2⟩
     ·exact .inl ⟨ls',q1,by simp[q2],fun p hp=>List.mem_append.2 (.inr (q3 p hp))⟩
     ·exact .inr ⟨T,d,xs,q1,by simp[q2]⟩
  ·rename_i T d xs a' b' hl hr
   have h:=Option.some.inj h
   injection h with h1 h2
   subst h1;subst h2
   obtain⟨k1,k2,k3⟩:=renHeap_spec hr
   refine⟨by simp[keys,seconds,k1],k2,?_⟩
   intro n' m' hm
   rcases List.mem_cons.1 hm with e|hm
   ·cases e
    exact .inr ⟨T,d,xs,hl,by simp⟩
   ·rcases k3 n' m' hm with⟨ls',q1,q2,q3⟩|⟨T,d,xs,q1,q2⟩
    ·exact .inl ⟨ls',q1,by simp[q2],q3⟩
    ·exact .inr ⟨T,d,xs,q1,by simp[q2]⟩
  ·exact no h
theorem renTmps_spec {σ:St}{ρ:List (Nat×Nat)}{cv:Cv}{rid:Nat}:∀{l:List Nat} {ts:List (Nat×AV)} {b:Hp},renTmps σ ρ cv rid l=some (ts,b)→
 (∀p∈b,CvRow cv p)∧∀t av,look ts t=some av→∃g ls,look σ.tmps t=some (.v g ls)∧av= .v g (renLs ρ cv (nmT rid t) 0 ls)∧Wants cv (nmT rid t) 0 ls b
 |[],ts,b,h=>by
  have h:=Option.some.inj h
  injection h with h1 h2
  subst h1;subst h2
  exact⟨fun p hp=>(by cases hp),fun t av hl=>no hl⟩
 |s::r,ts,b,h=>by
  unfold renTmps at h
  split at h
  ·rename_i g ls ts' b' hl hr
   have h:=Option.some.inj h
   injection h with h1 h2
   subst h1;subst h2
   obtain⟨k1,k2⟩:=renTmps_spec hr
   refine⟨?_,?_⟩
   ·intro p hp
    rcases List.mem_append.1 hp with hp|hp
    ·exact cvRows_spec (fun q=>nmT_ge rid s q) p hp
    ·exact k1 p hp
   ·intro t av ht
    rw[look_cons]at ht
    by_cases e:t=s
    ·rw[if_pos e]at ht
     cases ht
     subst e
     exact⟨g,ls,hl,rfl,fun p hp=>List.mem_append.2 (.inl hp)⟩
    ·rw[if_neg e]at ht
     obtain⟨g',ls',q1,q2,q3⟩:=k2 t av ht
     exact⟨g',ls',q1,q2,fun p hp=>List.mem_append.2 (.inr (q3 p hp))⟩
  ·exact no h
theorem seconds_map :∀(l:List (Nat×Nat)),seconds l=l.map (·.2)
 |[]=>rfl
 |(_,m)::r=>by simp[seconds,seconds_map r]
def swapP (ρ:List (Nat×Nat)):List (Nat×Nat):=ρ.map fun p=>(p.2,p.1)
theorem look_mem {α:Type}:∀{l:List (Nat×α)} {n:Nat} {x:α},look l n=some x→(n,x)∈l
 |(m,y)::l,n,x,h=>by
  rw[look_cons]at h
  by_cases e:n=m
  ·rw[if_pos e]at h
   cases h
   subst e
   simp
  ·rw[if_neg e]at h
   simp[look_mem h]
section
variable {F:Fr} {c:Cc} {w:World} {R:Cls} {σ τ:St} {a:Act}
def newCc (c:Cc)(ρ:List (Nat×Nat)):Cc:=
 ⟨fun k=>match look (swapP ρ) k with|some n=>c.at_ n|none=>none,fun k=>match look (swapP ρ) k with|some n=>c.fp n|none=>[]⟩
theorem renLs_val {ρ:List (Nat×Nat)}{cv:Cv}{name:Nat→Nat}{g:Sg}:∀{ls:List Lf} {q j:Nat},ls[j]? =some (.val g)→(renLs ρ cv name q ls)[j]? =some (.val g)
 |[],q,j,h=>by simp at h
 |l::ls,q,0,h=>by
  have h:l= .val g:=Option.some.inj h
  subst h
  rfl
 |l::ls,q,j+1,h=>renLs_val (ls:=ls) (q:=q+1) (j:=j) h
theorem insH_look {p q:Nat×Ent}:∀{H:Hp},q∈insH p H↔q=p∨q∈H
 |[]=>by simp[insH]
 |x::r=>by
  unfold insH
  split
  ·simp
  ·rw[List.mem_cons,insH_look (H:=r),List.mem_cons]
   constructor
   ·rintro(h|h|h)<;>simp[h]
   ·rintro(h|h|h)<;>simp[h]
theorem sortH_mem {q:Nat×Ent}:∀{H:Hp},q∈sortH H↔q∈H
 |[]=>Iff.rfl
 |p::r=>by unfold sortH;rw[insH_look,sortH_mem (H:=r),List.mem_cons]
theorem sortIf_sub {cv:Cv}{H:Hp}(hn:(H.map (·.1)).Nodup):∀n e,look (sortIf cv H) n=some e→look H n=some e:=by
 intro n e h
 unfold sortIf at h
 split at h
 ·have:=sortH_mem.1 (look_mem h)
  exact look_of_mem hn (n,e) this
 ·exact h
theorem norm0_ok (hF:∀n z,look F.io n=some z→n<1000){rid:Nat}{L:List Nat×Cv}(h:Rel F c w R σ a)(hn:norm0 rid L σ=some τ):∃c',Rel F c' w R τ a:=by
 unfold norm0 at hn
 dsimp only at hn
 have hρ:PairOk (pairs σ rid L.1 []):=pairs_ok ⟨by simp,fun p hp=>by cases hp⟩
 generalize pairs σ rid L.1 []=ρ at hn hρ
 split at hn
 ·rename_i ts h1 h2 h3 hts hhp
  split at hn
  ·rename_i hnd
   have hn:=Option.some.inj hn
   subst hn
   obtain⟨t1,t2⟩:=renTmps_spec hts
   obtain⟨p1,p2,p3⟩:=renHeap_spec hhp
   have hnd:=(nodup_iff _).1 hnd
   rw[keys_map]at hnd
   have hmem:∀p∈h2++(h1++h3),look (h2++(h1++h3)) p.1=some p.2:=fun p hp=>look_of_mem hnd p hp
   have hnd2:(h2.map (·.1)).Nodup:=by
    rw[List.map_append,List.nodup_append]at hnd
    exact hnd.1
   have hsw:(swapP ρ).map (·.1)=keys h2:=by
    rw[p1,seconds_map]
    simp[swapP]
   have hswap:∀n m,(n,m)∈ρ→look (swapP ρ) m=some n:=by
    intro n m hm
    refine look_of_mem (Z:=swapP ρ) ?_ (m,n) (List.mem_map.2 ⟨(n,m),hm,rfl⟩)
    rw[hsw,keys_map]
    exact hnd2
   have hcv:∀p∈h1++h3,look (swapP ρ) p.1=none:=by
    intro p hp
    refine look_none_of ?_
    rw[hsw,keys_map]
    intro hq
    rw[List.map_append,List.nodup_append]at hnd
    exact hnd.2.2 p.1 hq p.1 (List.mem_map.2 ⟨p,hp,rfl⟩) rfl
   have hent:∀k e,look (h2++(h1++h3)) k=some e→(∃n,(n,k)∈ρ∧look (swapP ρ) k=some n∧
    ((∃ls,look σ.heap n=some (.box ls)∧e= .box (renLs ρ L.2 (nmB n) 0 ls)∧Wants L.2 (nmB n) 0 ls h3)∨∃T d xs,look σ.heap n=some (.row T d xs)∧e= .row T d xs))∨
    (look (swapP ρ) k=none∧∃T d,look L.2 k=some (T,d)∧e= .row T d []∧1000≤k):=by
    intro k e he
    have hm:=look_mem he
    rcases List.mem_append.1 hm with hm|hm
    ·left
     have hk:k∈keys h2:=by rw[keys_map];exact List.mem_map.2 ⟨_,hm,rfl⟩
     rw[p1,seconds_map]at hk
     obtain⟨⟨n,k'⟩,hnk,rfl⟩:=List.mem_map.1 hk
     refine⟨n,hnk,hswap n k' hnk,?_⟩
     rcases p3 n k' hnk with⟨ls,q1,q2,q3⟩|⟨T,d,xs,q1,q2⟩
     ·have:=hmem _ (List.mem_append.2 (.inl q2))
      dsimp only at this he
      rw[he]at this
      cases this
      exact .inl ⟨ls,q1,rfl,q3⟩
     ·have:=hmem _ (List.mem_append.2 (.inl q2))
      dsimp only at this he
      rw[he]at this
      cases this
      exact .inr ⟨T,d,xs,q1,rfl⟩
    ·right
     refine⟨hcv _ hm,?_⟩
     rcases List.mem_append.1 hm with hm|hm
     ·obtain⟨T,d,q1,q2,q3⟩:=t1 _ hm
      exact⟨T,d,q1,q2,q3⟩
     ·obtain⟨T,d,q1,q2,q3⟩:=p2 _ hm
      exact⟨T,d,q1,q2,q3⟩
   have hname:∀n m e,look ρ n=some m→look (h2++(h1++h3)) m=some e→look (swapP ρ) m=some n∧
    ((∃ls,look σ.heap n=some (.box ls)∧e= .box (renLs ρ L.2 (nmB n) 0 ls))∨∃T d xs,look σ.heap n=some (.row T d xs)∧e= .row T d xs):=by
    intro n m e hnm he
    have hs:=hswap n m (look_mem hnm)
    refine⟨hs,?_⟩
    rcases hent m e he with⟨n',_,q2,q3⟩|⟨q1,_⟩
    ·rw[hs]at q2
     cases q2
     rcases q3 with⟨ls,q3,q4,_⟩|q3
     ·exact .inl ⟨ls,q3,q4⟩
     ·exact .inr q3
    ·rw[hs]at q1
     cases q1
   have hcaps:∀(caps:List Nat) (cs:List Nat) (vs:List Value),renL.mapCaps ρ caps=some cs→capsRel c σ.heap caps vs→capsRel (newCc c ρ) (h2++(h1++h3)) cs vs:=by
    intro caps
    induction caps with
    |nil=>
     intro cs vs hm hv
     have hm:=Option.some.inj hm
     subst hm
     match vs,hv with
     |[],_=>trivial
     |_::_,hv=>exact hv.elim
    |cons n caps ih=>
     intro cs vs hm hv
     unfold renL.mapCaps at hm
     split at hm
     ·rename_i m cs' hnm hcs
      have hm:=Option.some.inj hm
      subst hm
      match vs,hv with
      |[],hv=>exact hv.elim
      |v::vs,hv=>
       refine⟨?_,ih cs' vs hcs hv.2⟩
       intro ls hl
       obtain⟨q1,q2⟩:=hname n m _ hnm hl
       rcases q2 with⟨ls',q2,_⟩|⟨T,d,xs,q2,q3⟩
       ·obtain⟨b,q4,q5⟩:=hv.1 ls' q2
        exact⟨b,by simp only[newCc,q1];exact q4,q5⟩
       ·cases q3
     ·exact no hm
   have hleaf:∀(name:Nat→Nat) (q:Nat) (l:Lf) (r:List Lf) (u:Value),Wants L.2 name q (l::r) (h1++h3)→l.rel c w R σ.heap u→(renL ρ L.2 (name q) l).rel (newCc c ρ) w R (h2++(h1++h3)) u:=by
    intro name q l r u hw hl
    cases l with
    |ref n=>
     unfold renL
     dsimp only
     split
     ·rename_i m hnm
      intro T d xs he
      obtain⟨q1,q2⟩:=hname n m _ hnm he
      rcases q2 with⟨ls',q2,q3⟩|⟨T',d',xs',q2,q3⟩
      ·cases q3
      ·cases q3
       have:=hl T d xs q2
       simp only[newCc,q1]
       exact this
     ·trivial
    |ptr n off=>
     unfold renL
     dsimp only
     split
     ·rename_i m hnm
      intro ls he
      obtain⟨q1,q2⟩:=hname n m _ hnm he
      rcases q2 with⟨ls',q2,q3⟩|⟨T',d',xs',q2,q3⟩
      ·obtain⟨b,q4,q5⟩:=hl ls' q2
       exact⟨b,by simp only[newCc,q1];exact q4,q5⟩
      ·cases q3
     ·trivial
    |nil0=>
     unfold renL
     dsimp only
     split
     ·rename_i y hy
      intro T d xs he
      obtain⟨T0,d0⟩:=y
      have hin:(name q,Ent.row T0 d0 [])∈h1++h3:=by
       refine hw _ ?_
       unfold cvRows
       refine List.mem_append.2 (.inl ?_)
       rw[hy]
       simp[isNil0]
      have:=hmem _ (List.mem_append.2 (.inr hin))
      dsimp only at this
      rw[he]at this
      cases this
      have hz:=hcv _ hin
      dsimp only at hz
      simp only[newCc,hz]
      exact hl
     ·exact hl
    |val g=>exact hl
    |rptr p j=>exact hl
    |fnl f caps=>
     unfold renL
     dsimp only
     split
     ·rename_i cs hcs
      obtain⟨vs,q1,q2⟩:=hl
      exact⟨vs,q1,hcaps caps cs vs hcs q2⟩
     ·trivial
    |nilp=>exact hl
    |pref n i j=>exact trivial
    |eptr n i j=>exact trivial
    |dead=>exact trivial
   have hleaves:∀(name:Nat→Nat) (ls:List Lf) (q:Nat) (us:List Value),Wants L.2 name q ls (h1++h3)→All2 (Lf.rel c w R σ.heap) ls us→All2 (Lf.rel (newCc c ρ) w R (h2++(h1++h3))) (renLs ρ L.2 name q ls) us:=by
    intro name ls
    induction ls with
    |nil=>
     intro q us _ hu
     match us,hu with
     |[],_=>trivial
     |_::_,hu=>exact hu.elim
    |cons l r ih=>
     intro q us hw hu
     match us,hu with
     |[],hu=>exact hu.elim
     |u::us,hu=>exact⟨hleaf name q l r u hw hu.1,ih (q+1) us (fun p hp=>hw p (by unfold cvRows;exact List.mem_append.2 (.inr hp))) hu.2⟩
   refine⟨newCc c ρ,Rel.less (σ:=⟨ts,h2++(h1++h3)⟩) ⟨fun _ _ h=>h,sortIf_sub hnd⟩ ?_⟩
   refine{h with tm:= ?_,hp:= ?_,nd:= ?_,dj:= ?_,nr:= ?_,io:= ?_,kc:= ?_}
   ·intro t av hl
    obtain⟨g,ls,q1,rfl,q2⟩:=t2 t av hl
    obtain⟨v,q3,q4⟩:=h.tm t _ q1
    refine⟨v,q3,?_⟩
    have hw:Wants L.2 (nmT rid t) 0 ls (h1++h3):=fun p hp=>List.mem_append.2 (.inl (q2 p hp))
    cases g with
    |false=>
     obtain⟨l,rfl,q4⟩:=q4
     exact⟨_,rfl,hleaf (nmT rid t) 0 l [] v hw q4⟩
    |true=>
     obtain⟨vs,q5,q4⟩:=q4
     exact⟨vs,q5,hleaves (nmT rid t) ls 0 vs hw q4⟩
   ·intro k e he
    rcases hent k e he with⟨n,_,q2,q3⟩|⟨q1,T,d,_,rfl,_⟩
    ·rcases q3 with⟨ls,q3,rfl,q4⟩|⟨T,d,xs,q3,rfl⟩
     ·obtain⟨b,vs,ex,q5,q6,q7,q8⟩:=h.hp n _ q3
      refine⟨b,vs,ex,by simp only[newCc,q2];exact q5,by simp only[newCc,q2];exact q6,q7,?_⟩
      exact hleaves (nmB n) ls 0 vs.toList (fun p hp=>List.mem_append.2 (.inr (q4 p hp))) q8
     ·have:=h.hp n _ q3
      cases d with
      |true=>
       simp only[Ent.rel,newCc,q2]at this⊢
       exact this
      |false=>
       simp only[Ent.rel,newCc,q2]at this⊢
       exact this
    ·cases d with
     |true=>simp[Ent.rel,newCc,q1]
     |false=>simp[Ent.rel,newCc,q1]
   ·intro k e he
    rcases hent k e he with⟨n,_,q2,q3⟩|⟨q1,_⟩
    ·have:∃e',look σ.heap n=some e':=by
      rcases q3 with⟨ls,q3,_⟩|⟨T,d,xs,q3,_⟩
      ·exact⟨_,q3⟩
      ·exact⟨_,q3⟩
     obtain⟨e',he'⟩:=this
     simp only[newCc,q2]
     exact h.nd n e' he'
    ·simp only[newCc,q1]
     exact List.nodup_nil
   ·intro k e m e' hne he hm b hb hb'
    rcases hent k e he with⟨n,r1,q2,q3⟩|⟨q1,_⟩
    ·rcases hent m e' hm with⟨n',r2,q2',q3'⟩|⟨q1',_⟩
     ·simp only[newCc,q2]at hb
      simp only[newCc,q2']at hb'
      have s1:∃e',look σ.heap n=some e':=by
       rcases q3 with⟨ls,q3,_⟩|⟨T,d,xs,q3,_⟩
       ·exact⟨_,q3⟩
       ·exact⟨_,q3⟩
      have s2:∃e',look σ.heap n'=some e':=by
       rcases q3' with⟨ls,q3,_⟩|⟨T,d,xs,q3,_⟩
       ·exact⟨_,q3⟩
       ·exact⟨_,q3⟩
      obtain⟨f1,s1⟩:=s1
      obtain⟨f2,s2⟩:=s2
      refine h.dj n f1 n' f2 (fun e=> ?_) s1 s2 b hb hb'
      subst e
      have a1:=look_of_mem hρ.nd _ r1
      have a2:=look_of_mem hρ.nd _ r2
      dsimp only at a1 a2
      rw[a1]at a2
      cases a2
      exact hne rfl
     ·simp only[newCc,q1']at hb'
      cases hb'
    ·simp only[newCc,q1]at hb
     cases hb
   ·intro k e he b hb
    rcases hent k e he with⟨n,r1,q2,q3⟩|⟨q1,_⟩
    ·simp only[newCc,q2]at hb
     have s1:∃e',look σ.heap n=some e':=by
      rcases q3 with⟨ls,q3,_⟩|⟨T,d,xs,q3,_⟩
      ·exact⟨_,q3⟩
      ·exact⟨_,q3⟩
     obtain⟨f1,s1⟩:=s1
     exact h.nr n f1 s1 b hb
    ·simp only[newCc,q1]at hb
     cases hb
   ·intro p v hp
    obtain⟨i1,i2⟩:=h.io p v hp
    have hlt:=hF p v hp
    have same:∀e,look (h2++(h1++h3)) p=some e→look (swapP ρ) p=some p∧((∃ls ls',look σ.heap p=some (.box ls)∧e= .box ls')∨∃T d xs,look σ.heap p=some (.row T d xs)∧e= .row T d xs):=by
     intro e he
     rcases hent p e he with⟨n,r1,q2,q3⟩|⟨q1,T,d,_,_,q2⟩
     ·rcases hρ.ge _ r1 with hz|hz
      ·dsimp only at hz
       subst hz
       refine⟨q2,?_⟩
       rcases q3 with⟨ls,q3,q4,_⟩|q3
       ·exact .inl ⟨ls,_,q3,q4⟩
       ·exact .inr q3
      ·dsimp only at hz
       omega
     ·omega
    refine⟨fun T d xs he=> ?_,fun ls he=> ?_⟩
    ·obtain⟨s1,s2⟩:=same _ he
     rcases s2 with⟨_,_,_,s3⟩|⟨T',d',xs',s2,s3⟩
     ·cases s3
     ·cases s3
      simp only[newCc,s1]
      exact i1 T d xs s2
    ·obtain⟨s1,s2⟩:=same _ he
     rcases s2 with⟨ls1,ls2,s2,s3⟩|⟨T',d',xs',s2,s3⟩
     ·simp only[newCc,s1]
      exact i2 ls1 s2
     ·cases s3
   ·intro p v hp ls he j hj
    have hlt:=hF p v hp
    rcases hent p _ he with⟨n,r1,q2,q3⟩|⟨q1,T,d,_,e,q2⟩
    ·rcases hρ.ge _ r1 with hz|hz
     ·dsimp only at hz
      subst hz
      rcases q3 with⟨ls0,q3,q4,_⟩|⟨_,_,_,_,e⟩
      ·cases q4
       obtain⟨⟨g,g1,g2⟩,k2⟩:=h.kc n v hp ls0 q3 j hj
       refine⟨⟨g,renLs_val g1,g2⟩,fun b hb=>k2 b ?_⟩
       simpa only[newCc,q2]using hb
      ·cases e
     ·dsimp only at hz
      omega
    ·cases e
  ·exact no hn
 ·exact no hn
theorem norm_ok (hF:∀n z,look F.io n=some z→n<1000){rid:Nat}{L:List Nat×Cv}(h:Rel F c w R σ a)(hn:norm rid L σ=some τ):∃c' R',Rel F c' w R' τ a:=by
 unfold norm at hn
 split at hn
 ·rename_i τ' hf
  obtain⟨R',h'⟩:=frzAll_ok h hf
  obtain⟨c',h2⟩:=norm0_ok hF h' hn
  exact⟨c',R',h2⟩
 ·exact no hn
end
section
variable {α:Type} {P:Program} {E:Env} {F:Fr} {z:α}
structure KtOk (F:Fr)(k:Kt α)(z:α)(Q:Exit→Act→World→Prop):Prop where
 n:KOk F k.n z (Q .normal)
 e:∀i,KOk F (k.e i) z (Q (.exit i))
 r:KOk F k.r z (Q .ret)
theorem normK_ok (hF:∀n z,look F.io n=some z→n<1000){rid:Nat}{L:List Nat×Cv}{K:St→Option α}{N:Act→World→Prop}(h:KOk F K z N):KOk F (normK rid L K) z N:=by
 intro σ c w R a hr hz
 unfold normK at hz
 split at hz
 ·rename_i τ hn
  obtain⟨c',R',hr'⟩:=norm_ok hF hr hn
  exact h τ c' w R' a hr' hz
 ·exact no hz
def LoopI (F:Fr)(G:(St→Option α)→St→Option α)(z:α)(n:Nat)(a:Act)(w:World):Prop:=∃c R σ,Rel F c w R σ a∧loopN G n σ=some z
theorem least {p:Nat→Prop}(h:∃n,p n):∃m,p m∧∀k,p k→m≤k:=by
 obtain⟨n,hn⟩:=h
 induction n using Nat.strongRecOn with
 |_ n ih=>
  by_cases hk:∃k,k<n∧p k
  ·obtain⟨k,h1,h2⟩:=hk
   exact ih k h1 h2
  ·exact⟨n,hn,fun k h2=>Nat.le_of_not_lt fun h1=>hk ⟨k,h1,h2⟩⟩
open Classical in
noncomputable def LoopM (F:Fr)(G:(St→Option α)→St→Option α)(z:α)(a:Act)(w:World):Nat:=
 if h:∃n,LoopI F G z n a w then Classical.choose (least h)else 0
theorem LoopM_le {G:(St→Option α)→St→Option α}{n:Nat}{a:Act}{w:World}(h:LoopI F G z n a w):LoopM F G z a w≤n:=by
 unfold LoopM
 rw[dif_pos ⟨n,h⟩]
 exact(Classical.choose_spec (least (p:=fun n=>LoopI F G z n a w) ⟨n,h⟩)).2 n h
theorem LoopM_is {G:(St→Option α)→St→Option α}{a:Act}{w:World}(h:∃n,LoopI F G z n a w):LoopI F G z (LoopM F G z a w) a w:=by
 unfold LoopM
 rw[dif_pos h]
 exact(Classical.choose_spec (least h)).1
theorem loop_ok (hF:∀n z,look F.io n=some z→n<1000){rid:Nat}{L:List Nat×Cv}{c0:Code}{k:Kt α}{Q:Exit→Act→World→Prop}(hk:KtOk F k z Q)
 (ih:∀(k:Kt α) (Q:Exit→Act→World→Prop) (σ:St) (c:Cc) (w:World) (R:Cls) (a:Act),KtOk F k z Q→Rel F c w R σ a→evC E F.nt c0 k σ=some z→c0.wp P Q a w)
 {n:Nat} {a:Act} {w:World} (h:LoopI F (fun rec τ=>evC E F.nt c0 ⟨normK rid L rec,k.e,k.r⟩ τ) z n a w):(Code.loop c0).wp P Q a w:=by
 refine wp_loop (fun a w=>∃n,LoopI F (fun rec τ=>evC E F.nt c0 ⟨normK rid L rec,k.e,k.r⟩ τ) z n a w) (LoopM F (fun rec τ=>evC E F.nt c0 ⟨normK rid L rec,k.e,k.r⟩ τ) z) ⟨n,h⟩ ?_
 intro a w hI
 obtain⟨c,R,σ,hr,hz⟩:=LoopM_is hI
 revert hz
 generalize LoopM F (fun rec τ=>evC E F.nt c0 ⟨normK rid L rec,k.e,k.r⟩ τ) z a w=m
 intro hz
 cases m with
 |zero=>exact no hz
 |succ m=>
  refine ih ⟨normK rid L (loopN (fun rec τ=>evC E F.nt c0 ⟨normK rid L rec,k.e,k.r⟩ τ) m),k.e,k.r⟩ _ σ c w R a ⟨?_,hk.e,hk.r⟩ hr hz
  intro σ' c' w' R' a' hr' hz'
  have hz':(match norm rid L σ' with|some τ=>loopN (fun rec τ=>evC E F.nt c0 ⟨normK rid L rec,k.e,k.r⟩ τ) m τ|none=>none)=some z:=hz'
  split at hz'
  ·rename_i τ hn
   obtain⟨c2,R2,hr2⟩:=norm_ok hF hr' hn
   have:LoopI F (fun rec τ=>evC E F.nt c0 ⟨normK rid L rec,k.e,k.r⟩ τ) z m a' w':=⟨c2,R2,τ,hr2,hz'⟩
   exact⟨⟨m,this⟩,Nat.lt_succ_of_le (LoopM_le this)⟩
  ·exact no hz'
theorem code_ok (hE:EnvOk P E)(hF:∀n z,look F.io n=some z→n<1000):∀(code:Code) (k:Kt α) (Q:Exit→Act→World→Prop) (σ:St) (c:Cc) (w:World) (R:Cls) (a:Act),
 KtOk F k z Q→Rel F c w R σ a→evC E F.nt code k σ=some z→code.wp P Q a w:=by
 intro code
 induction code with
 |skip=>exact fun k Q σ c w R a hk h hz=>wp_skip (hk.n σ c w R a h hz)
 |region id ops draw=>
  intro k Q σ c w R a hk h hz
  cases draw with
  |false=>
   have hz:(match clrOf ops.toList with|some (p,q)=>runOps E F.nt id ops p 0 σ (fun σ=>clrRun E F.nt σ k.n q)|none=>runOps E F.nt id ops ops.toList 0 σ k.n)=some z:=hz
   split at hz
   ·rename_i p q hq
    exact clr_ok hE hF hq hk.n h hz
   ·exact region_ok hE hF hk.n h hz
  |true=>exact draw_ok hE hF hk.n h hz
 |seq x y ihx ihy=>
  intro k Q σ c w R a hk h hz
  refine wp_seq ?_
  have hz:evC E F.nt x ⟨match E.heads (2*Code.rid y+1)with|none=>evC E F.nt y k|some L=>normJ (2*Code.rid y+1) L (evC E F.nt y k),k.e,k.r⟩ σ=some z:=hz
  refine ihx ⟨match E.heads (2*Code.rid y+1)with|none=>evC E F.nt y k|some L=>normJ (2*Code.rid y+1) L (evC E F.nt y k),k.e,k.r⟩ _ σ c w R a ⟨?_,hk.e,hk.r⟩ h hz
  have hy:KOk F (evC E F.nt y k) z (y.wp P Q):=fun σ c w R a h hz=>ihy k Q σ c w R a hk h hz
  show KOk F (match E.heads (2*Code.rid y+1)with|none=>evC E F.nt y k|some L=>normJ (2*Code.rid y+1) L (evC E F.nt y k)) z _
  split
  ·exact hy
  ·rw[normJ_eq];exact normK_ok hF hy
 |cond x yes no' ihx ihy=>
  intro k Q σ c w R a hk h hz
  have hz:split σ x (evC E F.nt yes k) (evC E F.nt no' k)=some z:=hz
  obtain⟨b,τ,hb,hτ,hz⟩:=split_run h hz
  cases b with
  |true=>exact wp_cond_true hb (ihx k Q τ c w R a hk hτ hz)
  |false=>exact wp_cond_false hb (ihy k Q τ c w R a hk hτ hz)
 |block id x ih=>
  intro k Q σ c w R a hk h hz
  have hz:evC E F.nt x ⟨k.n,fun i τ=>match Nat.beq i id with|true=>k.n τ|false=>k.e i τ,k.r⟩ σ=some z:=hz
  refine wp_block (ih ⟨k.n,fun i τ=>match Nat.beq i id with|true=>k.n τ|false=>k.e i τ,k.r⟩ _ σ c w R a ⟨hk.n,?_,hk.r⟩ h hz)
  intro i σ c w R a h hz
  have hz:(match Nat.beq i id with|true=>k.n σ|false=>k.e i σ)=some z:=hz
  show(if i=id then Q .normal a w else Q (.exit i) a w)
  split at hz
  ·rename_i hi
   rw[if_pos (Nat.eq_of_beq_eq_true hi)]
   exact hk.n σ c w R a h hz
  ·rename_i hi
   rw[if_neg (fun e=>by subst e;simp at hi)]
   exact hk.e i σ c w R a h hz
 |loop x ih=>
  intro k Q σ c w R a hk h hz
  have hz:(match E.heads (2*Code.rid x)with|none=>none|some L=>normK (2*Code.rid x) L (loopN (fun rec τ=>evC E F.nt x ⟨normK (2*Code.rid x) L rec,k.e,k.r⟩ τ) E.K) σ)=some z:=hz
  split at hz
  ·exact no hz
  ·rename_i L hL
   unfold normK at hz
   split at hz
   ·rename_i τ hn
    obtain⟨c',R',h'⟩:=norm_ok hF h hn
    exact loop_ok (n:=E.K) hF hk ih ⟨c',R',τ,h',hz⟩
   ·exact no hz
 |exit i=>exact fun k Q σ c w R a hk h hz=>wp_exit (hk.e i σ c w R a h hz)
 |ret=>exact fun k Q σ c w R a hk h hz=>wp_ret (hk.r σ c w R a h hz)
 |_=>
  intro k Q σ c w R a hk h hz
  exact no (show none=some z from hz)
end
def Om.md :Om→Md
 | .ro=> .ro
 | .own=> .own
 | .box ow=> .box ow
 | .gone=> .gone
 | .boxo=> .boxo
def zipM :List Om→List Sg→List (Md×Sg)
 |m::ms,g::gs=>(m.md,g)::zipM ms gs
 |_,_=>[]
section
variable {P:Program} {E:Env} {F:Fr} {c:Cc} {w:World} {R:Cls} {σ:St} {a:Act}
theorem out_rel (h:Rel F c w R σ a){R0:Cls}(hR:∀b,R b→R0 b){m:Om}{t:LTy}{l:Lf}{x:t.den}{v:Value}(hf:frz σ.heap t l=some x)(hv:l.rel c w R σ.heap v)(ho:omOk σ.heap m l=true)(hnd:(omOwn σ.heap m l).Nodup)
 (hro:∀n e,n∈omRo σ.heap m l→look σ.heap n=some e→∀b∈c.fp n,R0 b):∃f,(t.sg x).rel w R0 m.md v f∧f.Nodup∧∀b∈f,named c σ (omOwn σ.heap m l) b:=by
 cases m with
 |ro=>exact⟨[],⟨frz_ro h hR hro hf hv,rfl⟩,List.nodup_nil,fun b hb=>by cases hb⟩
 |gone=>
  cases l with
  |nil0=>
   obtain⟨ad,rfl⟩:=hv
   exact⟨[],⟨rfl,rfl⟩,List.nodup_nil,fun b hb=>by cases hb⟩
  |_=>cases ho
 |boxo=>
  cases l with
  |ptr n off=>
   cases off with
   |succ off=>cases ho
   |zero=>
    have hf:capAs σ.heap n t=some x:=hf
    obtain⟨T',y,old,hx,hl,hf⟩:=capAs_some hf
    rw[hx]
    obtain⟨b,hb,rfl⟩:=hv old hl
    obtain⟨b',vs,e,h1,h2,h3,h4⟩:=h.hp n _ hl
    rw[hb]at h1
    cases h1
    have hsz:vs.size=T'.len:=by
     have:=h4.length
     rw[frzRs_len T' old y hf]at this
     simpa using this.symm
    have hat:cellsAt w b 0 vs.toList:=by
     intro j u hu
     unfold World.cell?
     rw[show(⟨b,0+j,none⟩:Addr).block=b from rfl,h3]
     simpa using hu
    refine⟨[b],⟨b,vs,e,rfl,h3,hsz,rfl,vals_cellsRo hat ?_⟩,by simp,fun k hk=> ?_⟩
    ·exact frzRs_vals h (R':=fun _=>True) (fun _ _=>trivial) T' old y _ (fun _ _ _ _ _ _ _ _=>trivial) hf h4
    ·simp at hk
     subst hk
     exact⟨n,_,by simp[omOwn],hl,by rw[h2];simp⟩
  |_=>cases ho
 |own=>
  have key:frzR σ.heap t l=some x→∃f,(t.sg x).rel w R0 Md.own v f∧f.Nodup∧∀b∈f,named c σ (omOwn σ.heap .own l) b:=by
   intro hf
   refine⟨_,frzR_own h hf ho hv,?_,?_⟩
   ·cases l with
    |ref n=>
     simp only[Lf.fp]
     have ho:(match look σ.heap n with|some (.row _ d _)=>d|_=>false)=true:=ho
     split at ho
     ·rename_i hl
      exact h.nd n _ hl
     ·cases ho
    |_=>exact List.nodup_nil
   ·intro b hb
    cases l with
    |ref n=>
     simp only[Lf.fp]at hb
     have ho:(match look σ.heap n with|some (.row _ d _)=>d|_=>false)=true:=ho
     split at ho
     ·rename_i hl
      exact⟨n,_,by simp[omOwn,refsOf],hl,hb⟩
     ·cases ho
    |_=>cases hb
  cases l with
  |val g=>exact key hf
  |nil0=>exact key hf
  |ref n=>exact key hf
  |_=>cases ho
 |box ow=>
  cases l with
  |ptr n off=>
   cases off with
   |succ off=>cases ho
   |zero=>
    have hf:capAs σ.heap n t=some x:=hf
    obtain⟨T',y,old,hx,hl,hf⟩:=capAs_some hf
    rw[hx]
    have ho:(match look σ.heap n with|some (.box ls)=> !ow||ownLs σ.heap ls|_=>false)=true:=ho
    rw[hl]at ho
    obtain⟨b,hb,rfl⟩:=hv old hl
    obtain⟨b',vs,e,h1,h2,h3,h4⟩:=h.hp n _ hl
    rw[hb]at h1
    cases h1
    have hsz:vs.size=T'.len:=by
     have:=h4.length
     rw[frzRs_len T' old y hf]at this
     simpa using this.symm
    have hat:cellsAt w b 0 vs.toList:=by
     intro j u hu
     unfold World.cell?
     rw[show(⟨b,0+j,none⟩:Addr).block=b from rfl,h3]
     simpa using hu
    cases ow with
    |true=>
     have ho:ownLs σ.heap old=true:=ho
     have hnd:(n::boxRefs σ.heap [n]).Nodup:=hnd
     rw[boxRefs_one hl,List.nodup_cons]at hnd
     have hbl:=lsFp_blocks h ho
     refine⟨b::lsFp c old,⟨b,vs,e,lsFp c old,rfl,h3,hsz,rfl,vals_cellsOwn hat (frzRs_ownV h T' old y _ hf ho h4)⟩,?_,?_⟩
     ·refine List.nodup_cons.2 ⟨fun hk=> ?_,lsFp_nodup h ho hnd.2⟩
      obtain⟨m,hm,hbm⟩:=lsFp_mem hk
      obtain⟨T2,xs2,hl2⟩:=ownLs_live ho hm
      have hne:n≠m:=by rintro rfl;rw[hl]at hl2;cases hl2
      exact h.dj n _ m _ hne hl hl2 b (by rw[h2];simp) hbm
     ·intro k hk
      rcases List.mem_cons.1 hk with rfl|hk
      ·exact⟨n,_,by simp[omOwn],hl,by rw[h2];simp⟩
      ·obtain⟨_,m,e',h5,h6,h7⟩:=hbl k hk
       refine⟨m,e',?_,h5,h7⟩
       simp only[omOwn,boxRefs_one hl]
       simp[h6]
    |false=>
     refine⟨[b],⟨b,vs,e,rfl,h3,hsz,rfl,vals_cellsRo hat ?_⟩,by simp,fun k hk=> ?_⟩
     ·exact frzRs_vals h hR T' old y _ (fun l hm m e hs hle k hk=>hro m e (by simp only[omRo,boxRefs_one hl];exact says_refss T' old y hf l hm hs) hle k hk) hf h4
     ·simp at hk
      subst hk
      exact⟨n,_,by simp[omOwn],hl,by rw[h2];simp⟩
  |_=>cases ow<;>cases ho
theorem outs_rel (h:Rel F c w R σ a){R0:Cls}(hR:∀b,R b→R0 b):∀{ms:List Om} {gs:List Sg} {ls:List Lf} {vs:List Value},
 All2 (fun(g:Sg) l=>∃(t:LTy) (y:t.den),g=t.sg y∧frz σ.heap t l=some y) gs ls→All2 (Lf.rel c w R σ.heap) ls vs→omsOk σ.heap ms ls=true→(omsOwn σ.heap ms ls).Nodup→
 (∀n e,n∈omsRo σ.heap ms ls→look σ.heap n=some e→∀b∈c.fp n,R0 b)→
 ∃f,relAll w R0 (zipM ms gs) vs f∧f.Nodup∧∀b∈f,named c σ (omsOwn σ.heap ms ls) b
 |[],[],[],[],_,_,_,_,_=>⟨[],rfl,List.nodup_nil,fun b hb=>by cases hb⟩
 |m::ms,g::gs,l::ls,v::vs,hf,hv,ho,hnd,hro=>by
  simp only[omsOk,Bool.and_eq_true]at ho
  have hnd':(omOwn σ.heap m l++omsOwn σ.heap ms ls).Nodup:=hnd
  rw[List.nodup_append]at hnd'
  obtain⟨⟨t,y,rfl,hfz⟩,hf2⟩:=hf
  obtain⟨f1,h1,h2,h3⟩:=out_rel h hR hfz hv.1 ho.1 hnd'.1 (fun n e hn=>hro n e (List.mem_append.2 (.inl hn)))
  obtain⟨f2,h4,h5,h6⟩:=outs_rel h hR hf2 hv.2 ho.2 hnd'.2.1 (fun n e hn=>hro n e (List.mem_append.2 (.inr hn)))
  refine⟨f1++f2,⟨f1,f2,rfl,h1,h4⟩,?_,?_⟩
  ·rw[List.nodup_append]
   refine⟨h2,h5,fun b hb b' hb' e=> ?_⟩
   subst e
   obtain⟨n,e1,n1,n2,n3⟩:=h3 b hb
   obtain⟨k,e2,k1,k2,k3⟩:=h6 b hb'
   exact h.dj n e1 k e2 (hnd'.2.2 n n1 k k1) n2 k2 b n3 k3
  ·intro b hb
   rcases List.mem_append.1 hb with hb|hb
   ·obtain⟨n,e1,n1,n2⟩:=h3 b hb
    exact⟨n,e1,List.mem_append.2 (.inl n1),n2⟩
   ·obtain⟨n,e1,n1,n2⟩:=h6 b hb
    exact⟨n,e1,List.mem_append.2 (.inr n1),n2⟩
 |[],[],[],_::_,_,hv,_,_,_=>hv.elim
 |[],[],_::_,_,hf,_,_,_,_=>hf.elim
 |[],_::_,[],_,hf,_,_,_,_=>hf.elim
 |[],_::_,_::_,_,_,_,ho,_,_=>by cases ho
 |_::_,[],[],_,_,_,ho,_,_=>by cases ho
 |_::_,[],_::_,_,hf,_,_,_,_=>hf.elim
 |_::_,_::_,[],_,hf,_,_,_,_=>hf.elim
 |_::_,_::_,_::_,[],_,hv,_,_,_=>hv.elim
theorem out_flat {R R':Cls}{m:Om}{g:Sg}{v:Value}{f:List Nat}(hf:omFlat m g=true)(h:g.rel w R m.md v f):g.rel w R' m.md v f:=by
 cases m with
 |ro=>exact⟨flat_ro hf h.1,h.2⟩
 |own=>exact h
 |gone=>exact h
 |boxo=>cases g<;>exact h
 |box ow=>
  cases ow with
  |true=>
   cases g with
   |ptr T x=>exact h
   |_=>exact h.elim
  |false=>
   cases g with
   |ptr T x=>
    obtain⟨b,vs,e,h1,h2,h3,h4,h5⟩:=h
    exact⟨b,vs,e,h1,h2,h3,h4,cellsRo_flat hf h5⟩
   |_=>exact h.elim
theorem outs_flat {R R':Cls}:∀{ms:List Om} {gs:List Sg} {vs:List Value} {f:List Nat},omsFlat ms gs=true→relAll w R (zipM ms gs) vs f→relAll w R' (zipM ms gs) vs f
 |[],gs,vs,f,_,h=>by cases vs<;>exact h
 |_::_,[],vs,f,_,h=>by cases vs<;>exact h
 |m::ms,g::gs,[],f,_,h=>h.elim
 |m::ms,g::gs,v::vs,f,hf,h=>by
  simp only[omsFlat,Bool.and_eq_true]at hf
  obtain⟨f1,f2,rfl,h1,h2⟩:=h
  exact⟨f1,f2,rfl,out_flat hf.1 h1,outs_flat hf.2 h2⟩
theorem zipM_append :∀{ms ms':List Om} {gs gs':List Sg},ms.length=gs.length→zipM (ms++ms') (gs++gs')=zipM ms gs++zipM ms' gs'
 |[],_,[],_,_=>rfl
 |m::ms,_,g::gs,_,h=>by
  show(m.md,g)::zipM (ms++_) (gs++_)=_
  rw[zipM_append (by simpa using h)]
  rfl
 |[],_,_::_,_,h=>by simp at h
 |_::_,_,[],_,h=>by simp at h
theorem ioOm_zip :∀{io:List (Nat×Bool)} {gs:List Sg},io.length=gs.length→zipM (ioOm io gs) gs=ioMdO io gs∧(ioOm io gs).length=gs.length
 |[],[],_=>⟨rfl,rfl⟩
 |(p,ow)::io,g::gs,h=>by
  obtain⟨h1,h2⟩:=ioOm_zip (io:=io) (gs:=gs) (by simpa using h)
  refine⟨?_,?_⟩
  ·show(Om.md _,g)::zipM (ioOm io gs) gs=_
   rw[h1]
   cases g<;>cases ow<;>rfl
  ·show(ioOm io gs).length+1=gs.length+1
   rw[h2]
 |[],_::_,h=>by simp at h
 |_::_,[],h=>by simp at h
theorem resOm_zip :∀{own:List Bool} {gs:List Sg},zipM (resOm own gs) gs=resMds own gs
 |_,[]=>rfl
 |own,g::gs=>by
  show(Om.md _,g)::zipM (resOm own.tail gs) gs=_
  rw[resOm_zip]
  show _=((match own.headD false,g with|true, .sl .. =>Md.own|true, .ptr .. => .box false|_,_=> .ro),g)::resMds own.tail gs
  cases own.headD false<;>cases g<;>rfl
theorem relAll_split {R:Cls}:∀{A B:List (Md×Sg)} {vs us:List Value} {f:List Nat},A.length=vs.length→relAll w R (A++B) (vs++us) f→∃f1 f2,f=f1++f2∧relAll w R A vs f1∧relAll w R B us f2
 |[],B,[],us,f,_,h=>⟨[],f,rfl,rfl,h⟩
 |(m,g)::A,B,v::vs,us,f,hl,h=>by
  obtain⟨f1,f2,rfl,h1,h2⟩:=h
  obtain⟨f3,f4,rfl,h3,h4⟩:=relAll_split (by simpa using hl) h2
  exact⟨f1++f3,f4,by simp,⟨f1,f3,rfl,h1,h3⟩,h4⟩
 |[],_,_::_,_,_,hl,_=>by simp at hl
 |_::_,_,[],_,_,hl,_=>by simp at hl
theorem ioMdO_len :∀{io:List (Nat×Bool)} {gs:List Sg},io.length=gs.length→(ioMdO io gs).length=io.length
 |[],[],_=>rfl
 |(p,ow)::io,g::gs,h=>by
  show(ioMdO io gs).length+1=io.length+1
  rw[ioMdO_len (by simpa using h)]
 |[],_::_,h=>by simp at h
 |_::_,[],h=>by simp at h
theorem res_mapM (hE:EnvOk P E)(h:Rel F c w R σ a){k:ResultVar→Sem Value}(hk1:∀t,(k (.tmp t)).run P w= .ok (a.tmps.getD t Go.undef) w)
 (hk2:∀q t ad u,a.tmps.getD q Go.undef= .pointer (some ad)→(loadVar t ad).run P w= .ok u w→(k (.cell q t)).run P w= .ok u w):∀{rs:List ResultVar} {az:List (Bool×List Lf)},results E σ rs=some az→
 ∃vs:List Value,All2 (fun p v=>V1.rel c w R σ.heap p.1 p.2 v) az vs∧(rs.mapM k).run P w= .ok vs w
 |[],az,hr=>by
  have hr:=Option.some.inj hr
  subst hr
  exact⟨[],trivial,by simp⟩
 | .tmp t::rs,az,hr=>by
   unfold results at hr
   split at hr
   ·rename_i g ls s ht hs
    have hr:=Option.some.inj hr
    subst hr
    obtain⟨vs,h1,h2⟩:=res_mapM hE h hk1 hk2 hs
    obtain⟨v,h3,h4⟩:=h.tm t _ ht
    refine⟨v::vs,⟨h4,h1⟩,?_⟩
    have e:a.tmps.getD t Go.undef=v:=by simp[Array.getD_eq_getD_getElem?,h3]
    have h5:=hk1 t
    rw[e]at h5
    simp only[List.mapM_cons,Sem.run_bind,h5,h2,Result.andThen,Sem.run_pure]
   ·exact no hr
 | .cell q t::rs,az,hr=>by
   unfold results at hr
   split at hr
   ·rename_i l i s hq hi hs
    split at hr
    ·rename_i ls hl hg
     have hr:=Option.some.inj hr
     subst hr
     obtain⟨vs,h1,h2⟩:=res_mapM hE h hk1 hk2 hs
     obtain⟨v,h3,h4⟩:=h.tm q _ hq
     obtain⟨ad,u,h5,h6,h7⟩:=loadV h (hE.ty t i hi) hl (V1.one h4) hg
     refine⟨u::vs,⟨h7,h1⟩,?_⟩
     have e:a.tmps.getD q Go.undef= .pointer (some ad):=by simp[Array.getD_eq_getD_getElem?,h3,h5]
     have h8:=hk2 q t ad u e h6
     simp only[List.mapM_cons,Sem.run_bind,h8,h2,Result.andThen,Sem.run_pure]
    ·exact no hr
   ·exact no hr
def resK (tmps:Array Value):ResultVar→Sem Value
 | .tmp t=>pure (tmps.getD t Go.undef)
 | .cell a t=>do loadVar t (←asAddr (tmps.getD a Go.undef))
theorem results_eq (fn:Func)(tmps:Array Value):Go.results fn tmps=(do
 let vs←fn.results.mapM (resK tmps)
 pure (if h:vs.size=1 then vs[0]else .tuple vs)):=by
 rfl
theorem res_run (hE:EnvOk P E)(h:Rel F c w R σ a){fn:Func}{az:List (Bool×List Lf)}(hr:results E σ fn.results.toList=some az):
 ∃vs:List Value,All2 (fun p v=>V1.rel c w R σ.heap p.1 p.2 v) az vs∧(Go.results fn a.tmps).run P w= .ok (tupV vs) w:=by
 rw[results_eq,Array.mapM_eq_mapM_toList]
 obtain⟨vs,h1,h2⟩:=res_mapM hE h (k:=resK a.tmps) (fun t=>by simp[resK]) (fun q t ad u e hu=>by
  show(do loadVar t (←asAddr (a.tmps.getD q Go.undef)):Sem Value).run P w=_
  rw[e]
  simp[asAddr,hu]) hr
 refine⟨vs,h1,?_⟩
 simp only[Sem.run_bind,Sem.run_map,h2]
 match vs with
 |[]=>simp[tupV]
 |[v]=>simp[tupV]
 |u::v::vs=>simp[tupV]
end
def ioSmall :List (Nat×Bool)→Bool
 |[]=>true
 |(p,_)::r=>Nat.blt p 1000&&ioSmall r
def conOk (con:Con)(nt:Nat):Bool:=
 rsOk con.ps con.A.len&&rsOk con.rs (con.B.len-con.io.length)&&Nat.ble con.ps.length nt&&ioSmall con.io&&nodup (fsts con.io)&&Nat.ble con.io.length con.B.len
theorem ioSmall_spec :∀{io:List (Nat×Bool)},ioSmall io=true→∀p∈io,p.1<1000
 |[],_,p,hp=>by cases hp
 |(q,o)::io,h,p,hp=>by
  simp only[ioSmall,Bool.and_eq_true,Nat.blt_eq]at h
  rcases List.mem_cons.1 hp with rfl|hp
  ·exact h.1
  ·exact ioSmall_spec h.2 p hp
theorem relAll_noio {w:World}{R:Cls}:∀{gs:List Sg} {vs:List Value} {q:Nat} {fp:List Nat},relAll w R (argMds [] q gs) vs fp→fp=[]
 |[],[],_,_,h=>h
 |[],_::_,_,_,h=>h.elim
 |_::_,[],_,_,h=>h.elim
 |g::gs,v::vs,q,fp,h=>by
  obtain⟨f1,f2,rfl,h1,h2⟩:=h
  rw[relAll_noio h2,List.append_nil]
  exact h1.2
theorem ioOuts_at :∀{io:List (Nat×Bool)} {gs:List Sg} {os:List Lf},ioOuts io gs=some os→∀p ow,look io p=some ow→(∃T,∃xs:List T.den,gs[p]? =some (.sl T xs))∨(∃T,∃x:T.den,gs[p]? =some (.ptr T x))
 |[],_,_,_,p,ow,h=>no h
 |(q,o)::io,gs,os,h,p,ow,hp=>by
  unfold ioOuts at h
  rw[look_cons]at hp
  split at h
  ·rename_i T xs s hg hs
   by_cases e:p=q
   ·subst e
    exact .inl ⟨T,xs,hg⟩
   ·rw[if_neg e]at hp
    exact ioOuts_at hs p ow hp
  ·rename_i T xs s hg hs
   by_cases e:p=q
   ·subst e
    exact .inr ⟨T,xs,hg⟩
   ·rw[if_neg e]at hp
    exact ioOuts_at hs p ow hp
  ·exact no h
section
variable {w:World} {R:Cls} {nils:List Nat} {io:List (Nat×Bool)}
theorem par_leaf {ow:Bool}{g:Sg}:∀{gs:List Sg} {q k:Nat},look io (q+k)=some ow→gs[k]? =some g→
 (∀T xs,g= .sl T xs→(parLs nils io q gs).1[k]? =some (.ref (q+k))∧(q+k,Ent.row T true xs)∈(parLs nils io q gs).2)∧
 (∀T x,g= .ptr T x→(parLs nils io q gs).1[k]? =some (.ptr (q+k) 0)∧∃ls,(q+k,Ent.box ls)∈(parLs nils io q gs).2)
 |[],q,k,_,hg=>by simp at hg
 |g0::gs,q,0,hq,hg=>by
  have hq:look io q=some ow:=hq
  simp at hg
  subst hg
  refine⟨fun T xs e=> ?_,fun T x e=> ?_⟩
  ·subst e
   unfold parLs
   dsimp only
   rw[hq]
   simp
  ·subst e
   unfold parLs
   dsimp only
   rw[hq]
   cases ow<;>simp
 |g0::gs,q,k+1,hq,hg=>by
  have e:q+(k+1)=q+1+k:=by omega
  rw[e]at hq⊢
  obtain⟨h1,h2⟩:=par_leaf (gs:=gs) hq (by simpa using hg)
  have key:∀(l:Lf) (H:Hp),parLs nils io q (g0::gs)=(l::(parLs nils io (q+1) gs).1,H)→(∀p∈(parLs nils io (q+1) gs).2,p∈H)→
   (∀T xs,g= .sl T xs→(parLs nils io q (g0::gs)).1[k+1]? =some (.ref (q+1+k))∧(q+1+k,Ent.row T true xs)∈(parLs nils io q (g0::gs)).2)∧
   (∀T x,g= .ptr T x→(parLs nils io q (g0::gs)).1[k+1]? =some (.ptr (q+1+k) 0)∧∃ls,(q+1+k,Ent.box ls)∈(parLs nils io q (g0::gs)).2):=by
   intro l H e hH
   rw[e]
   refine⟨fun T xs e=> ?_,fun T x e=> ?_⟩
   ·obtain⟨k1,k2⟩:=h1 T xs e
    exact⟨by simpa using k1,hH _ k2⟩
   ·obtain⟨k1,ls,k2⟩:=h2 T x e
    exact⟨by simpa using k1,ls,hH _ k2⟩
  cases hz:look io q with
  |none=>exact key (match mem nils q with|true=> .nil0|false=> .val g0) (parLs nils io (q+1) gs).2 (by simp only[parLs,hz];cases g0<;>rfl) fun p hp=>hp
  |some o=>
   cases g0 with
   |sl T xs=>exact key _ _ (by simp only[parLs,hz];rfl) fun p hp=>by simp[hp]
   |ptr T x=>
    cases o with
    |true=>exact key _ _ (by simp only[parLs,hz];rfl) fun p hp=>by simp[hp]
    |false=>exact key _ _ (by simp only[parLs,hz];rfl) fun p hp=>by simp[hp]
   |int k n=>exact key _ _ (by simp only[parLs,hz];rfl) fun p hp=>hp
   |bool b=>exact key _ _ (by simp only[parLs,hz];rfl) fun p hp=>hp
   |str s=>exact key _ _ (by simp only[parLs,hz];rfl) fun p hp=>hp
   |fn f g A B x y=>exact key _ _ (by simp only[parLs,hz];rfl) fun p hp=>hp
theorem par_box {T:ETy}{y:T.den}:∀{gs:List Sg} {q k:Nat},look io (q+k)=some false→gs[k]? =some (.ptr T y)→(q+k,Ent.box ((T.sgs y).map .val))∈(parLs nils io q gs).2
 |[],q,k,_,hg=>by simp at hg
 |g0::gs,q,0,hq,hg=>by
  have hq:look io q=some false:=hq
  simp at hg
  subst hg
  unfold parLs
  dsimp only
  rw[hq]
  simp
 |g0::gs,q,k+1,hq,hg=>by
  have e:q+(k+1)=q+1+k:=by omega
  rw[e]at hq⊢
  have h1:=par_box (gs:=gs) hq (by simpa using hg)
  unfold parLs
  dsimp only
  split
  ·exact List.mem_cons_of_mem _ h1
  ·exact List.mem_cons_of_mem _ (List.mem_append.2 (.inr h1))
  ·exact List.mem_cons_of_mem _ h1
  ·exact h1
theorem par_lay :∀{gs:List Sg} {vs:List Value} {q:Nat} {fp:List Nat},relAll w R (argMds io q gs) vs fp→(∀k v,q+k∈nils→vs[k]? =some v→∃a,v= .slice a 0 0)→
 ∃Z,Lay w R (parLs nils io q gs).2 Z∧fpsOf Z=fp∧∀c' H',okZ c' Z→okH H' (parLs nils io q gs).2→All2 (Lf.rel c' w R H') (parLs nils io q gs).1 vs
 |[],[],q,fp,h,_=>⟨[],Lay.nil,by cases h;rfl,fun _ _ _ _=>trivial⟩
 |[],_::_,q,fp,h,_=>h.elim
 |g::gs,[],q,fp,h,_=>h.elim
 |g::gs,v::vs,q,fp,h,hn=>by
  obtain⟨f1,f2,rfl,h1,h2⟩:=h
  obtain⟨Z,hl,hf,ha⟩:=par_lay h2 (fun k v hk hv=>hn (k+1) v (by rw[show q+(k+1)=q+1+k by omega];exact hk) (by simpa using hv))
  have plain:(parLs nils io q (g::gs))=((match mem nils q with|true=> .nil0|false=> .val g)::(parLs nils io (q+1) gs).1,(parLs nils io (q+1) gs).2)→g.ro w R v∧f1=[]→
   ∃Z,Lay w R (parLs nils io q (g::gs)).2 Z∧fpsOf Z=f1++f2∧∀c' H',okZ c' Z→okH H' (parLs nils io q (g::gs)).2→All2 (Lf.rel c' w R H') (parLs nils io q (g::gs)).1 (v::vs):=by
   rintro e ⟨h3,rfl⟩
   rw[e]
   refine⟨Z,hl,hf,fun c' H' hz hH=>⟨?_,ha c' H' hz hH⟩⟩
   cases hm:mem nils q with
   |true=>exact hn 0 v ((mem_iff _ _).1 hm) rfl
   |false=>exact h3
  cases hz:look io q with
  |none=>
   refine plain (by simp only[parLs,hz];cases g<;>rfl) ?_
   rw[hz]at h1
   exact h1
  |some o=>
   rw[hz]at h1
   cases g with
   |sl T xs=>
    have e:parLs nils io q (.sl T xs::gs)=(.ref q::(parLs nils io (q+1) gs).1,(q, .row T true xs)::(parLs nils io (q+1) gs).2):=by simp only[parLs,hz]
    rw[e]
    have h1:LTy.own w (.sl T) xs v f1:=h1
    obtain⟨z,k1,k2⟩:=own_row (R:=R) q h1
    refine⟨(q,z,f1)::Z,⟨by simp[keys,hl.1],fun c' H' hz hH p hp=> ?_⟩,by simp[fpsOf,hf],fun c' H' hz hH=>⟨?_,?_⟩⟩
    ·have hz0:=hz _ (List.mem_cons_self ..)
     rcases List.mem_cons.1 hp with rfl|hp
     ·exact k1 c' H' hz0.1 hz0.2
     ·exact hl.2 c' H' (fun z hz'=>hz z (by simp[hz'])) (fun p hp'=>hH p (by simp[hp'])) p hp
    ·exact k2 c' H' (hz _ (List.mem_cons_self ..)).1 (hH _ (List.mem_cons_self ..))
    ·exact ha c' H' (fun z hz'=>hz z (by simp[hz'])) (fun p hp'=>hH p (by simp[hp']))
   |ptr T x=>
    cases o with
    |true=>
     have e:parLs nils io q (.ptr T x::gs)=(.ptr q 0::(parLs nils io (q+1) gs).1,(q, .box (resLs (q+900) 0 (List.replicate T.len true) (T.sgs x)).1)::((resLs (q+900) 0 (List.replicate T.len true) (T.sgs x)).2++(parLs nils io (q+1) gs).2)):=by simp only[parLs,hz]
     rw[e]
     have h1:Sg.rel w R (.box true) (.ptr T x) v f1:=h1
     obtain⟨b,cs,ty,fr,rfl,hb,hsz,rfl,hown⟩:=h1
     have hat:cellsAt w b 0 cs.toList:=by
      intro j u hu
      unfold World.cell?
      rw[show(⟨b,0+j,none⟩:Addr).block=b from rfl,hb]
      simpa using hu
     have hov:=cellsOwn_at hown hat (by rw[ETy.sgs_length,Array.length_toList,hsz])
     have hra:=own_relAll (R:=R) hov
     rw[ETy.sgs_length]at hra
     obtain⟨X,x1,x2,x3⟩:=res_lay (site:=q+900) (q:=0) hra
     refine⟨(q,some (b,0),[b])::(X++Z),⟨by simp[keys,keys_append,hl.1,x1.1],fun c' H' hz hH p hp=> ?_⟩,by simp[fpsOf,fpsOf_append,hf,x2],fun c' H' hz hH=>⟨?_,?_⟩⟩
     ·have hz0:=hz _ (List.mem_cons_self ..)
      rcases List.mem_cons.1 hp with rfl|hp
      ·exact⟨b,cs,ty,hz0.1,hz0.2,hb,x3 c' H' (fun z hz'=>hz z (by simp[hz'])) (fun p hp'=>hH p (by simp[hp']))⟩
      ·rcases List.mem_append.1 hp with hp|hp
       ·exact x1.2 c' H' (fun z hz'=>hz z (by simp[hz'])) (fun p hp'=>hH p (by simp[hp'])) p hp
       ·exact hl.2 c' H' (fun z hz'=>hz z (by simp[hz'])) (fun p hp'=>hH p (by simp[hp'])) p hp
     ·intro ls hl'
      exact⟨b,(hz _ (List.mem_cons_self ..)).1,rfl⟩
     ·exact ha c' H' (fun z hz'=>hz z (by simp[hz'])) (fun p hp'=>hH p (by simp[hp']))
    |false=>
     have e:parLs nils io q (.ptr T x::gs)=(.ptr q 0::(parLs nils io (q+1) gs).1,(q, .box ((T.sgs x).map .val))::(parLs nils io (q+1) gs).2):=by simp only[parLs,hz]
     rw[e]
     have h1:Sg.rel w R (.box false) (.ptr T x) v f1:=h1
     obtain⟨b,cs,ty,rfl,hb,hsz,rfl,hro⟩:=h1
     refine⟨(q,some (b,0),[b])::Z,⟨by simp[keys,hl.1],fun c' H' hz hH p hp=> ?_⟩,by simp[fpsOf,hf],fun c' H' hz hH=>⟨?_,?_⟩⟩
     ·have hz0:=hz _ (List.mem_cons_self ..)
      rcases List.mem_cons.1 hp with rfl|hp
      ·refine⟨b,cs,ty,hz0.1,hz0.2,hb,All2.map_left _ (All2.of_get (by rw[ETy.sgs_length,Array.length_toList,hsz]) fun j g u hg hu=> ?_)⟩
       obtain⟨u',hu',hq⟩:=hro j g hg
       unfold World.cell? at hu'
       rw[show(⟨b,0+j,none⟩:Addr).block=b from rfl,hb]at hu'
       have:u'=u:=by simp at hu' hu;rw[hu]at hu';exact(Option.some.inj hu').symm
       subst this
       exact hq
      ·exact hl.2 c' H' (fun z hz'=>hz z (by simp[hz'])) (fun p hp'=>hH p (by simp[hp'])) p hp
     ·intro ls hl'
      exact⟨b,(hz _ (List.mem_cons_self ..)).1,rfl⟩
     ·exact ha c' H' (fun z hz'=>hz z (by simp[hz'])) (fun p hp'=>hH p (by simp[hp']))
   |int k n=>exact plain (by simp only[parLs,hz];rfl) h1
   |bool b=>exact plain (by simp only[parLs,hz];rfl) h1
   |str s=>exact plain (by simp only[parLs,hz];rfl) h1
   |fn f g A B x y=>exact(show False from h1).elim
theorem avTmps_look :∀{az:List (Bool×List Lf)} {q t:Nat} {av:AV},look (avTmps q az) t=some av→∃k p,t=q+k∧az[k]? =some p∧av= .v p.1 p.2
 |[],q,t,av,h=>no h
 |(g,ls)::az,q,t,av,h=>by
  unfold avTmps at h
  rw[look_cons]at h
  by_cases e:t=q
  ·rw[if_pos e]at h
   cases h
   exact⟨0,(g,ls),by omega,rfl,rfl⟩
  ·rw[if_neg e]at h
   obtain⟨k,p,h1,h2,h3⟩:=avTmps_look h
   exact⟨k+1,p,by omega,by simpa using h2,h3⟩
theorem packV_length :∀{rs:List (Bool×Nat)} {vs:List Value},(packV rs vs).length=rs.length
 |[],_=>rfl
 |(g,n)::r,vs=>by simp[packV,packV_length (rs:=r)]
theorem parLs_len :∀{gs:List Sg} {q:Nat},(parLs nils io q gs).1.length=gs.length
 |[],_=>rfl
 |g::gs,q=>by
  have:=parLs_len (gs:=gs) (q:=q+1)
  unfold parLs
  dsimp only
  split<;>simp[this]
theorem io_look {io:List (Nat×Bool)}{vs:List Value}{p:Nat}{v:Value}:look (io.map fun p=>(p.1,vs.getD p.1 Go.undef)) p=some v→v=vs.getD p Go.undef∧(∃ow,look io p=some ow)∧∃ow,(p,ow)∈io:=by
 induction io with
 |nil=>exact fun h=>no h
 |cons x io ih=>
  obtain⟨q,o⟩:=x
  intro h
  rw[List.map_cons,look_cons]at h
  dsimp only at h
  rw[look_cons]
  by_cases e:p=q
  ·rw[if_pos e]at h
   subst e
   cases h
   exact⟨rfl,⟨o,by simp⟩,o,by simp⟩
  ·rw[if_neg e]at h
   obtain⟨h1,⟨ow,h2⟩,ow',h3⟩:=ih h
   exact⟨h1,⟨ow,by rw[if_neg e];exact h2⟩,ow',by simp[h3]⟩
def kpOf (io:List (Nat×Bool))(gs:List Sg)(p j:Nat):Bool:=
 match look io p,gs[p]? with
 |some false,some (.ptr T y)=>(match(T.sgs y)[j]? with|some g=> !g.t.flat|none=>false)
 |_,_=>false
theorem args_boxes {io:List (Nat×Bool)}:∀{gs:List Sg} {vs:List Value} {q:Nat} {fp:List Nat},relAll w R (argMds io q gs) vs fp→(∀k ow g,look io (q+k)=some ow→gs[k]? =some g→ow=false∧∃T,∃y:T.den,g= .ptr T y)→
 ∀b∈fp,∃k,look io (q+k)=some false∧vs[k]? =some (.pointer (some ⟨b,0,none⟩))
 |[],[],q,fp,h,_,b,hb=>by rw[show fp=[]from h]at hb;cases hb
 |[],_::_,_,_,h,_,_,_=>h.elim
 |_::_,[],_,_,h,_,_,_=>h.elim
 |g::gs,v::vs,q,fp,h,hall,b,hb=>by
  obtain⟨f1,f2,rfl,h1,h2⟩:=h
  rcases List.mem_append.1 hb with hb|hb
  ·cases hz:look io q with
   |none=>
    rw[hz]at h1
    rw[h1.2]at hb
    cases hb
   |some ow=>
    obtain⟨rfl,T,y,rfl⟩:=hall 0 ow g hz rfl
    rw[hz]at h1
    obtain⟨b',cs,ty,rfl,_,_,rfl,_⟩:=h1
    simp at hb
    subst hb
    exact⟨0,hz,rfl⟩
  ·obtain⟨k,k1,k2⟩:=args_boxes (q:=q+1) h2 (fun k ow g hk hg=>hall (k+1) ow g (by rw[show q+(k+1)=q+1+k by omega];exact hk) (by simpa using hg)) b hb
   exact⟨k+1,by rw[show q+(k+1)=q+1+k by omega];exact k1,by simpa using k2⟩
theorem entry_rel {con:Con}{x:con.A.den}{vs:List Value}{fp:List Nat}{nt:Nat}{os:List Lf}(hps:rsOk con.ps con.A.len=true)(hnt:con.ps.length≤nt)(hio:ioOuts con.io (con.A.sgs x)=some os)(hkeys:nodup (keys (entry con x).heap)=true)
 (hrel:relAll w R (argMds con.io 0 (con.A.sgs x)) vs fp) (hnil:∀q∈con.nils,∃a,vs[q]? =some (.slice a 0 0)) (hnd:fp.Nodup) (hR:∀b∈fp,¬R b) (hlt:∀b,R b→b<w.heap.size):
 ∃c,Rel ⟨w,fp,nt,con.io.map fun p=>(p.1,vs.getD p.1 Go.undef),R,kpOf con.io (con.A.sgs x)⟩ c w R (entry con x) ⟨(packV con.ps vs).toArray++Array.replicate (nt-(packV con.ps vs).toArray.size) Go.undef,[]⟩:=by
 obtain⟨Z,hl,hf,ha⟩:=par_lay (nils:=con.nils) hrel (fun k v hk hv=>by
  rw[Nat.zero_add]at hk
  obtain⟨a,h⟩:=hnil k hk
  rw[hv]at h
  exact⟨a,Option.some.inj h⟩)
 have hks:=(nodup_iff _).1 hkeys
 have hks':(keys (parLs con.nils con.io 0 (con.A.sgs x)).2).Nodup:=hks
 have hZk:(Z.map (·.1)).Nodup:=by rw[hl.1];exact hks'
 have hc:okZ ⟨fun n=>match look Z n with|some z=>z.1|none=>none,fun n=>match look Z n with|some z=>z.2|none=>[]⟩ Z:=by
  intro z hz
  have:=look_of_mem hZk z hz
  simp only[this]
  exact⟨trivial,trivial⟩
 have hH:okH (entry con x).heap (parLs con.nils con.io 0 (con.A.sgs x)).2:=by
  intro p hp
  exact look_of_mem (Z:=(parLs con.nils con.io 0 (con.A.sgs x)).2) (by rw[←keys_map];exact hks') p hp
 have hleaf:=ha _ _ hc hH
 have hin:∀n e,look (entry con x).heap n=some e→(n,e)∈(parLs con.nils con.io 0 (con.A.sgs x)).2∧∃z,(n,z)∈Z:=by
  intro n e he
  have hm:(n,e)∈(parLs con.nils con.io 0 (con.A.sgs x)).2:=look_mem he
  refine⟨hm,?_⟩
  have:n∈Z.map (·.1):=by rw[hl.1,keys_map];exact List.mem_map.2 ⟨_,hm,rfl⟩
  obtain⟨z,hz,rfl⟩:=List.mem_map.1 this
  exact⟨z.2,hz⟩
 have hnd':(fpsOf Z).Nodup:=by rw[hf];exact hnd
 refine⟨⟨fun n=>match look Z n with|some z=>z.1|none=>none,fun n=>match look Z n with|some z=>z.2|none=>[]⟩,?_⟩
 constructor
 ·intro t av ht
  obtain⟨k,p,rfl,hk,rfl⟩:=avTmps_look ht
  rw[Nat.zero_add]
  have hall:=av_shaped (rs:=con.ps) hleaf (by rw[parLs_len,ETy.sgs_length];exact hps)
  obtain⟨v,hv,hq⟩:=hall.get k p hk
  refine⟨v,?_,hq⟩
  have hlt:k<(packV con.ps vs).length:=(List.getElem?_eq_some_iff.1 hv).1
  rw[Array.getElem?_append_left (by simpa using hlt)]
  simpa using hv
 ·intro n e he
  exact hl.2 _ _ hc hH _ (hin n e he).1
 ·intro n e he
  obtain⟨_,z,hz⟩:=hin n e he
  rw[(hc _ hz).2]
  exact fps_one hnd' _ hz
 ·intro n e m e' hne he hm b hb hb'
  obtain⟨_,z,hz⟩:=hin n e he
  obtain⟨_,y,hy⟩:=hin m e' hm
  rw[(hc _ hz).2]at hb
  rw[(hc _ hy).2]at hb'
  exact fps_apart hnd' _ hz _ hy hne hb hb'
 ·intro n e he b hb
  obtain⟨_,z,hz⟩:=hin n e he
  rw[(hc _ hz).2]at hb
  have hbf:b∈fp:=by rw[←hf];exact mem_fps hz hb
  exact⟨hR b hbf, .inl hbf⟩
 ·exact hlt
 ·exact Nat.le_refl _
 ·exact fun _ _ _=>rfl
 ·exact fun _ _ h=>h
 ·rfl
 ·rfl
 ·rfl
 ·rfl
 ·simp only[Array.size_append,Array.size_replicate,List.size_toArray,packV_length]
  omega
 ·intro p v hp
  obtain⟨rfl,⟨ow,how⟩,_⟩:=io_look hp
  rcases ioOuts_at hio p ow how with⟨T,xs,hg⟩|⟨T,y,hg⟩
  ·obtain⟨k1,k2⟩:=(par_leaf (nils:=con.nils) (q:=0) (k:=p) (by rw[Nat.zero_add];exact how) hg).1 T xs rfl
   rw[Nat.zero_add]at k1 k2
   obtain⟨v,hv,hq⟩:=hleaf.get p _ k1
   have hgd:vs.getD p Go.undef=v:=by simp[List.getD,hv]
   rw[hgd]
   have hrow:=hH _ k2
   refine⟨hq,fun ls hl'=> ?_⟩
   dsimp only at hrow
   rw[hrow]at hl'
   cases hl'
  ·obtain⟨k1,ls,k2⟩:=(par_leaf (nils:=con.nils) (q:=0) (k:=p) (by rw[Nat.zero_add];exact how) hg).2 T y rfl
   rw[Nat.zero_add]at k1 k2
   obtain⟨v,hv,hq⟩:=hleaf.get p _ k1
   have hgd:vs.getD p Go.undef=v:=by simp[List.getD,hv]
   rw[hgd]
   have hrow:=hH _ k2
   refine⟨fun T d xs hl'=> ?_,hq⟩
   dsimp only at hrow
   rw[hrow]at hl'
   cases hl'
 ·exact fun _ h=>h
 ·exact fun _ h=> .inl h
 ·intro p v hp ls hl' j hj
  refine⟨?_,fun _ _=>rfl⟩
  have hj:kpOf con.io (con.A.sgs x) p j=true:=hj
  unfold kpOf at hj
  split at hj
  ·rename_i T y how hg
   have hb:=par_box (nils:=con.nils) (q:=0) (k:=p) (by rw[Nat.zero_add];exact how) hg
   rw[Nat.zero_add]at hb
   have hrow:=hH _ hb
   dsimp only at hrow
   rw[hrow]at hl'
   cases hl'
   split at hj
   ·rename_i g hgj
    exact⟨g,by rw[List.getElem?_map,hgj];rfl,by simpa using hj⟩
   ·cases hj
  ·cases hj
end
section
variable {P:Program} {E:Env} {c:Cc} {w0 w:World} {R0 R:Cls} {W:List Nat} {nt:Nat} {σ:St} {a:Act}
def ioValsG (io:List (Nat×Bool))(gs:List Sg)(vs:List Value):List Value:=io.map fun p=>match gs[p.1]?,p.2 with|some (.sl _ _),true=> .slice none 0 0|_,_=>vs.getD p.1 Go.undef
theorem relAll_one {w:World}{R:Cls}{io:List (Nat×Bool)}:∀{gs:List Sg} {vs:List Value} {q:Nat} {fp:List Nat},relAll w R (argMds io q gs) vs fp→∀k g,gs[k]? =some g→(vs.getD k Go.undef).oneCell'=true
 |[],[],_,_,_,k,g,hg=>by simp at hg
 |[],_::_,_,_,h,_,_,_=>h.elim
 |_::_,[],_,_,h,_,_,_=>h.elim
 |g::gs,v::vs,q,fp,h,k,g',hg=>by
  obtain⟨f1,f2,rfl,h1,h2⟩:=h
  cases k with
  |zero=>exact Sg.rel_one h1
  |succ k=>
   have:=relAll_one h2 k g' (by simpa using hg)
   simpa using this
theorem relAll_gone {w:World}{R:Cls}{gs:List Sg}{vs:List Value}:∀{io:List (Nat×Bool)} {gs':List Sg} {f:List Nat},(∀p ow,(p,ow)∈io→(vs.getD p Go.undef).oneCell'=true)→relAll w R (ioMdO io gs') (ioValsG io gs vs) f→relAll w R (ioMdO io gs') (ioVals io vs) f
 |[],gs',f,_,h=>h
 |(p,ow)::io,[],f,_,h=>h.elim
 |(p,ow)::io,g::gs',f,h1,h=>by
  obtain⟨f1,f2,rfl,h2,h3⟩:=h
  refine⟨f1,f2,rfl,?_,relAll_gone (fun q o hq=>h1 q o (List.mem_cons_of_mem _ hq)) h3⟩
  have hu:∃u,g.rel w R (match g,ow with| .ptr ..,true=> .box true| .ptr ..,false=> .boxo| .sl ..,true=> .gone|_,_=> .own) u f1∧(u=vs.getD p Go.undef∨(u= .slice none 0 0∧ow=true)):=by
   refine⟨_,h2,?_⟩
   dsimp only
   split
   ·rename_i he _
    exact .inr ⟨rfl,rfl⟩
   ·exact .inl rfl
  obtain⟨u,h2,rfl|⟨rfl,rfl⟩⟩:=hu
  ·exact h2
  ·cases g with
   |sl T xs=>exact⟨h1 p _ (List.mem_cons_self ..),h2.2⟩
   |ptr T x=>obtain⟨b,us,e,fr,k,_⟩:=h2;cases k
   |int k n=>cases h2.1
   |bool b=>cases h2.1
   |str s=>cases h2.1
   |fn=>exact h2.elim
theorem ioOuts_rel {vs:List Value}{c:Cc}{w:World}{R:Cls}{H:Hp}:∀{io:List (Nat×Bool)} {gs:List Sg} {os:List Lf},ioOuts io gs=some os→(∀p∈io,(Lf.ref p.1).rel c w R H (vs.getD p.1 Go.undef)∧(Lf.ptr p.1 0).rel c w R H (vs.getD p.1 Go.undef))→
 All2 (Lf.rel c w R H) os (ioValsG io gs vs)
 |[],_,_,h,_=>by
  have h:=Option.some.inj h
  subst h
  trivial
 |(p,ow)::io,gs,os,h,hr=>by
  unfold ioOuts at h
  have hp:=hr (p,ow) (by simp)
  split at h
  ·rename_i T xs s hg hs
   have h:=Option.some.inj h
   subst h
   refine⟨?_,ioOuts_rel hs fun q hq=>hr q (by simp[hq])⟩
   dsimp only
   rw[hg]
   cases ow with
   |true=>exact⟨none,rfl⟩
   |false=>exact hp.1
  ·rename_i T xs s hg hs
   have h:=Option.some.inj h
   subst h
   refine⟨?_,ioOuts_rel hs fun q hq=>hr q (by simp[hq])⟩
   dsimp only
   rw[hg]
   exact hp.2
  ·exact no h
theorem io_own {H:Hp}{gs:List Sg}{ms:List Om}{ls:List Lf}:∀{io:List (Nat×Bool)} {gs':List Sg} {os:List Lf},ioOuts io gs=some os→io.length=gs'.length→omsOk H (ioOm io gs'++ms) (os++ls)=true→
 ∀p ow T (y:T.den),(p,ow)∈io→gs[p]? =some (.ptr T y)→(∃l,look H p=some (.box l))∧p∈omsOwn H (ioOm io gs'++ms) (os++ls)
 |[],_,_,_,_,_,p,ow,T,y,hp,_=>by cases hp
 |(q,o)::io,[],os,_,hl,_,_,_,_,_,_,_=>by simp at hl
 |(q,o)::io,g'::gs',os,ho,hl,hk,p,ow,T,y,hp,hg=>by
  unfold ioOuts at ho
  have rest:∀{l:Lf} {s:List Lf} {m:Om},ioOuts io gs=some s→omsOk H (m::(ioOm io gs'++ms)) (l::(s++ls))=true→(p,ow)∈io→(∃l,look H p=some (.box l))∧p∈omsOwn H (m::(ioOm io gs'++ms)) (l::(s++ls)):=by
   intro l s m hs hk hp
   simp only[omsOk,Bool.and_eq_true]at hk
   obtain⟨k1,k2⟩:=io_own hs (by simpa using hl) hk.2 p ow T y hp hg
   exact⟨k1,List.mem_append.2 (.inr k2)⟩
  split at ho
  ·rename_i T1 xs s hg1 hs
   have ho:=Option.some.inj ho
   subst ho
   rcases List.mem_cons.1 hp with e|hp
   ·injection e with e1 e2
    subst e1
    rw[hg]at hg1
    cases hg1
   ·exact rest hs hk hp
  ·rename_i T1 xs s hg1 hs
   have ho:=Option.some.inj ho
   subst ho
   rcases List.mem_cons.1 hp with e|hp
   ·injection e with e1 e2
    subst e1
    cases g' with
    |ptr T2 y2=>
     cases o with
     |true=>
      have hk2:omsOk H (Om.box true::(ioOm io gs'++ms)) (.ptr p 0::(s++ls))=true:=hk
      simp only[omsOk,Bool.and_eq_true]at hk2
      have hk1:(match look H p with|some (.box ls)=> !true||ownLs H ls|_=>false)=true:=hk2.1
      split at hk1
      ·rename_i l hl'
       refine⟨⟨l,hl'⟩,List.mem_append.2 (.inl ?_)⟩
       show p∈p::_
       exact List.mem_cons_self ..
      ·cases hk1
     |false=>
      have hk2:omsOk H (Om.boxo::(ioOm io gs'++ms)) (.ptr p 0::(s++ls))=true:=hk
      simp only[omsOk,Bool.and_eq_true]at hk2
      have hk1:(match look H p with|some (.box _)=>true|_=>false)=true:=hk2.1
      split at hk1
      ·rename_i l hl'
       refine⟨⟨l,hl'⟩,List.mem_append.2 (.inl ?_)⟩
       show p∈[p]
       exact List.mem_cons_self ..
      ·cases hk1
    |sl T2 y2=>
     cases o with
     |true=>
      have hk2:omsOk H (Om.gone::(ioOm io gs'++ms)) (.ptr p 0::(s++ls))=true:=hk
      simp only[omsOk,Bool.and_eq_true]at hk2
      cases hk2.1
     |false=>
      have hk2:omsOk H (Om.own::(ioOm io gs'++ms)) (.ptr p 0::(s++ls))=true:=hk
      simp only[omsOk,Bool.and_eq_true]at hk2
      cases hk2.1
    |_=>
     have hk2:omsOk H (Om.own::(ioOm io gs'++ms)) (.ptr p 0::(s++ls))=true:=hk
     simp only[omsOk,Bool.and_eq_true]at hk2
     cases hk2.1
   ·exact rest hs hk hp
  ·exact no ho
theorem ptrIo_spec {gs:List Sg}:∀{io:List (Nat×Bool)} {os:List Lf},ioOuts io gs=some os→ptrIo io os=true→∀p ow,(p,ow)∈io→ow=false∧∃T,∃y:T.den,gs[p]? =some (.ptr T y)
 |[],_,_,_,p,ow,hp=>by cases hp
 |(q,o)::io,os,ho,hk,p,ow,hp=>by
  unfold ioOuts at ho
  split at ho
  ·have ho:=Option.some.inj ho
   subst ho
   cases o<;>cases hk
  ·rename_i T y s hg hs
   have ho:=Option.some.inj ho
   subst ho
   have hk2:(!o&&ptrIo io s)=true:=hk
   simp only[Bool.and_eq_true,Bool.not_eq_true']at hk2
   rcases List.mem_cons.1 hp with e|hp
   ·injection e with e1 e2
    subst e1;subst e2
    exact⟨hk2.1,T,y,hg⟩
   ·exact ptrIo_spec hs hk2.2 p ow hp
  ·exact no ho
theorem fin_ok (hE:EnvOk P E){con:Con}{fn:Func}{x:con.A.den}{y:con.B.den}{vs0:List Value}(hone:∀p ow,(p,ow)∈con.io→(vs0.getD p Go.undef).oneCell'=true)(hle:con.io.length≤con.B.len)(hnd:(fsts con.io).Nodup)(hW:con.io=[]→W=[])(hWb:(∀p ow,(p,ow)∈con.io→ow=false∧∃T,∃y:T.den,(con.A.sgs x)[p]? =some (.ptr T y))→∀b∈W,∃p,(p,false)∈con.io∧vs0.getD p Go.undef= .pointer (some ⟨b,0,none⟩))
 (h:Rel ⟨w0,W,nt,con.io.map fun p=>(p.1,vs0.getD p.1 Go.undef),R0,kpOf con.io (con.A.sgs x)⟩ c w R σ a) (hf:fin E con fn.results.toList x σ=some y):
 ∃rs fo fr R',(Go.results fn a.tmps).run P w= .ok (tupV (packV con.rs rs)) w∧
  relAll w R' (ioMdO con.io ((con.B.sgs y).take con.io.length)) (ioVals con.io vs0) fo∧relAll w R' (resMds con.own ((con.B.sgs y).drop con.io.length)) rs fr∧
  (fo++fr).Nodup∧(∀b∈fo++fr,¬R' b∧(b∈W∨w0.heap.size≤b))∧(∀b,R0 b→R' b)∧(∀b,R' b→b<w.heap.size∧(R0 b∨w0.heap.size≤b))∧Ext W w0 w∧keptIo con.io (con.A.sgs x) vs0 w0 w:=by
 unfold fin at hf
 split at hf
 case h_2=>exact no hf
 rename_i az os has hos
 dsimp only at hf
 split at hf
 case h_2=>exact no hf
 rename_i y' hsh hfz
 split at hf
 case h_2=>exact no hf
 rename_i hg
 have hf:=Option.some.inj hf
 subst hf
 simp only[Bool.and_eq_true,Bool.or_eq_true]at hg
 obtain⟨⟨⟨⟨g1,g2⟩,g3⟩,g4⟩,g5⟩:=hg
 have g1:=Nat.eq_of_beq_eq_true g1
 have g3:=(nodup_iff _).1 g3
 have g4:=(disj_iff _ _).1 g4
 obtain⟨vals,hv,hrun⟩:=res_run hE h has
 obtain⟨rsv,hrs,rfl⟩:=flat_args hv hsh
 have hlook:∀p∈con.io,look (con.io.map fun p=>(p.1,vs0.getD p.1 Go.undef)) p.1=some (vs0.getD p.1 Go.undef):=by
  intro p hp
  have hnd':((con.io.map fun p=>(p.1,vs0.getD p.1 Go.undef)).map (·.1)).Nodup:=by
   have e:∀(io:List (Nat×Bool)),fsts io=(io.map fun p=>(p.1,vs0.getD p.1 Go.undef)).map (·.1):=by
    intro io
    induction io with
    |nil=>rfl
    |cons x io ih=>obtain⟨p,b⟩:=x;simp[fsts,ih]
   rw[←e]
   exact hnd
  exact look_of_mem hnd' (p.1,vs0.getD p.1 Go.undef) (List.mem_map.2 ⟨p,hp,rfl⟩)
 have hio:All2 (Lf.rel c w R σ.heap) os (ioValsG con.io (con.A.sgs x) vs0):=ioOuts_rel hos fun p hp=>h.io p.1 _ (hlook p hp)
 have hall:=All2.append hio hrs
 have hfa:=frzs_all con.B _ _ hfz
 have hzip:zipM (ioOm con.io ((con.B.sgs y').take con.io.length)++resOm con.own ((con.B.sgs y').drop con.io.length)) (con.B.sgs y')=ioMdO con.io ((con.B.sgs y').take con.io.length)++resMds con.own ((con.B.sgs y').drop con.io.length):=by
  have hl:con.io.length=((con.B.sgs y').take con.io.length).length:=by rw[List.length_take,ETy.sgs_length];omega
  obtain⟨z1,z2⟩:=ioOm_zip hl
  have:=zipM_append (ms':=resOm con.own ((con.B.sgs y').drop con.io.length)) (gs':=(con.B.sgs y').drop con.io.length) z2
  rw[List.take_append_drop]at this
  rw[this,z1,resOm_zip]
 have hml:(ioMdO con.io ((con.B.sgs y').take con.io.length)).length=(ioValsG con.io (con.A.sgs x) vs0).length:=by
  rw[ioMdO_len (by rw[List.length_take,ETy.sgs_length];omega)]
  simp[ioValsG]
 have hext:Ext W w0 w:=⟨h.sz,h.fr,h.sh,h.os,h.out,h.tape⟩
 have hown:=io_own (ms:=resOm con.own ((con.B.sgs y').drop con.io.length)) hos (gs':=(con.B.sgs y').take con.io.length) (by rw[List.length_take,ETy.sgs_length];omega) g2
 have hbox:∀p ow T (z:T.den) b,(p,ow)∈con.io→(con.A.sgs x)[p]? =some (.ptr T z)→vs0.getD p Go.undef= .pointer (some ⟨b,0,none⟩)→(∃l,look σ.heap p=some (.box l))∧c.at_ p=some (b,0)∧c.fp p=[b]∧p∈omsOwn σ.heap (ioOm con.io ((con.B.sgs y').take con.io.length)++resOm con.own ((con.B.sgs y').drop con.io.length)) (os++flatA az):=by
  intro p ow T z b hp hg hv
  obtain⟨⟨l,hl⟩,k2⟩:=hown p ow T z hp hg
  obtain⟨b',q1,q2⟩:=(h.io p _ (hlook _ hp)).2 l hl
  rw[hv]at q2
  injection q2 with q2
  injection q2 with q2
  injection q2 with q2
  subst q2
  obtain⟨b2,us,e,r1,r2,_⟩:=h.hp p _ hl
  rw[q1]at r1
  cases r1
  exact⟨⟨l,hl⟩,q1,r2,k2⟩
 have hkept:keptIo con.io (con.A.sgs x) vs0 w0 w:=by
  intro p T z b hp hg hv j g hj hf
  obtain⟨⟨l,hl⟩,k1,_,_⟩:=hbox p false T z b (mem_of_look hp) hg hv
  refine(h.kc p _ (hlook _ (mem_of_look hp)) l hl j ?_).2 b k1
  show kpOf con.io (con.A.sgs x) p j=true
  unfold kpOf
  rw[hp,hg]
  dsimp only
  rw[hj]
  simp[hf]
 let ms:=ioOm con.io ((con.B.sgs y').take con.io.length)++resOm con.own ((con.B.sgs y').drop con.io.length)
 let R1:Cls:=fun b=>R b∨∃n e,look σ.heap n=some e∧n∉omsOwn σ.heap ms (os++flatA az)∧b∈c.fp n
 obtain⟨f,k1,k2,k3⟩:=outs_rel h (R0:=R1) (fun b hb=> .inl hb) hfa hall g2 g3 (fun n e hn he b hb=> .inr ⟨n,e,he,g4 n hn,hb⟩)
 have hbase:∀b∈f,b∈W∨w0.heap.size≤b:=by
  intro b hb
  obtain⟨n,e,n1,n2,n3⟩:=k3 b hb
  exact(h.nr n e n2 b n3).2
 have finish:∀(R':Cls),relAll w R' (zipM ms (con.B.sgs y')) (ioValsG con.io (con.A.sgs x) vs0++rsv) f→(∀b∈f,¬R' b)→(∀b,R0 b→R' b)→(∀b,R' b→b<w.heap.size∧(R0 b∨w0.heap.size≤b))→
  ∃rs fo fr R',(Go.results fn a.tmps).run P w= .ok (tupV (packV con.rs rs)) w∧
  relAll w R' (ioMdO con.io ((con.B.sgs y').take con.io.length)) (ioVals con.io vs0) fo∧relAll w R' (resMds con.own ((con.B.sgs y').drop con.io.length)) rs fr∧
  (fo++fr).Nodup∧(∀b∈fo++fr,¬R' b∧(b∈W∨w0.heap.size≤b))∧(∀b,R0 b→R' b)∧(∀b,R' b→b<w.heap.size∧(R0 b∨w0.heap.size≤b))∧Ext W w0 w∧keptIo con.io (con.A.sgs x) vs0 w0 w:=by
  intro R' q1 q2 q3 q4
  rw[hzip]at q1
  obtain⟨fo,fr,rfl,r1,r2⟩:=relAll_split hml q1
  exact⟨rsv,fo,fr,R',hrun,relAll_gone hone r1,r2,k2,fun b hb=>⟨q2 b hb,hbase b hb⟩,q3,q4,hext,hkept⟩
 rcases g5 with(g5|g5)|g5
 ·have hio0:con.io=[]:=by
   cases hz:con.io with
   |nil=>rfl
   |cons _ _=>rw[hz]at g5;cases g5
  have hW0:=hW hio0
  refine finish R1 k1 ?_ (fun b hb=> .inl (h.rr b hb)) ?_
  ·rintro b hb (hr|⟨n,e,n1,n2,n3⟩)
   ·obtain⟨m,e',m1,m2,m3⟩:=k3 b hb
    exact(h.nr m e' m2 b m3).1 hr
   ·obtain⟨m,e',m1,m2,m3⟩:=k3 b hb
    exact h.dj n e m e' (fun e=>n2 (e▸m1)) n1 m2 b n3 m3
  ·rintro b (hr|⟨n,e,n1,n2,n3⟩)
   ·refine⟨h.rl b hr,?_⟩
    rcases h.rn b hr with q|q|q
    ·exact .inl q
    ·exact .inr q
    ·dsimp only at q
     rw[hW0]at q
     cases q
   ·refine⟨Ent.lt (h.hp n e n1) b n3,?_⟩
    rcases(h.nr n e n1 b n3).2 with q|q
    ·dsimp only at q
     rw[hW0]at q
     cases q
    ·exact .inr q
 ·refine finish R0 (outs_flat g5 k1) ?_ (fun b hb=>hb) ?_
  ·intro b hb hr
   obtain⟨m,e',m1,m2,m3⟩:=k3 b hb
   exact(h.nr m e' m2 b m3).1 (h.rr b hr)
  ·exact fun b hb=>⟨h.rl b (h.rr b hb), .inl hb⟩
 ·have hpt:=ptrIo_spec hos g5
  have hWx:∀b∈W,¬R1 b:=by
   intro b hb
   obtain⟨p,hp,hv⟩:=hWb hpt b hb
   obtain⟨_,T,z,hg⟩:=hpt p false hp
   obtain⟨⟨l,hl⟩,q1,q2,q3⟩:=hbox p false T z b hp hg hv
   rintro(hr|⟨n,e,n1,n2,n3⟩)
   ·exact(h.nr p _ hl b (by rw[q2];simp)).1 hr
   ·exact h.dj p _ n e (fun e=>n2 (e▸q3)) hl n1 b (by rw[q2];simp) n3
  refine finish R1 k1 ?_ (fun b hb=> .inl (h.rr b hb)) ?_
  ·rintro b hb (hr|⟨n,e,n1,n2,n3⟩)
   ·obtain⟨m,e',m1,m2,m3⟩:=k3 b hb
    exact(h.nr m e' m2 b m3).1 hr
   ·obtain⟨m,e',m1,m2,m3⟩:=k3 b hb
    exact h.dj n e m e' (fun e=>n2 (e▸m1)) n1 m2 b n3 m3
  ·intro b hb
   have hbw:b∉W:=fun hw=>hWx b hw hb
   rcases hb with hr|⟨n,e,n1,n2,n3⟩
   ·refine⟨h.rl b hr,?_⟩
    rcases h.rn b hr with q|q|q
    ·exact .inl q
    ·exact .inr q
    ·exact absurd q hbw
   ·refine⟨Ent.lt (h.hp n e n1) b n3,?_⟩
    rcases(h.nr n e n1 b n3).2 with q|q
    ·exact absurd q hbw
    ·exact .inr q
theorem body_ok (hE:EnvOk P E){g:Nat}{fn:Func}{con:Con}(hf:P.funcs[g]? =some fn)(hn:(fn.name== "runtime.NumGoroutine")=false)(hb:fn.body.isNone=false)(hc:conOk con fn.ntmps=true)
 (hev:∀x y,con.f x=some y→evBody E con fn x=some y):Valid P g con:=by
 simp only[conOk,Bool.and_eq_true]at hc
 obtain⟨⟨⟨⟨⟨c1,c2⟩,c3⟩,c4⟩,c5⟩,c6⟩:=hc
 have c3:=Nat.le_of_ble_eq_true c3
 have c5:=(nodup_iff _).1 c5
 have c6:=Nat.le_of_ble_eq_true c6
 refine⟨⟨fn,hf,hn,hb⟩,c2,?_⟩
 intro x y hy w vs R fp hrel hnil hnd hR hlt
 have hz:=hev x y hy
 unfold evBody at hz
 split at hz
 case h_2=>exact no hz
 rename_i code os hcode hkeys hios
 obtain⟨c,h⟩:=entry_rel c1 c3 hios hkeys hrel hnil hnd hR hlt
 refine calls_of_wp hf hcode ?_
 have hWb:(∀p ow,(p,ow)∈con.io→ow=false∧∃T,∃y:T.den,(con.A.sgs x)[p]? =some (.ptr T y))→∀b∈fp,∃p,(p,false)∈con.io∧vs.getD p Go.undef= .pointer (some ⟨b,0,none⟩):=by
  intro hall b hb
  obtain⟨k,k1,k2⟩:=args_boxes hrel (fun k ow g hk hg=>by
   rw[Nat.zero_add]at hk
   obtain⟨e,T,y,h2⟩:=hall k ow (mem_of_look hk)
   rw[h2]at hg
   cases hg
   exact⟨e,T,y,rfl⟩) b hb
  rw[Nat.zero_add]at k1
  exact⟨k,mem_of_look k1,by simp[List.getD,k2]⟩
 have hfin:KOk ⟨w,fp,fn.ntmps,con.io.map fun p=>(p.1,vs.getD p.1 Go.undef),R,kpOf con.io (con.A.sgs x)⟩ (fin E con fn.results.toList x) y (fun a w'=>a.defers=[]∧∃v,(Go.results fn a.tmps).run P w'= .ok v w'∧(∃rs fo fr R',Ending.returned v= .returned (tupV (packV con.rs rs))∧
  relAll w' R' (ioMdO con.io ((con.B.sgs y).take con.io.length)) (ioVals con.io vs) fo∧relAll w' R' (resMds con.own ((con.B.sgs y).drop con.io.length)) rs fr∧
  (fo++fr).Nodup∧(∀b∈fo++fr,¬R' b∧(b∈fp∨w.heap.size≤b))∧(∀b,R b→R' b)∧(∀b,R' b→b<w'.heap.size∧(R b∨w.heap.size≤b))∧Ext fp w w'∧keptIo con.io (con.A.sgs x) vs w w')):=by
  intro σ c w' R' a hr hz
  obtain⟨rs,fo,fr,R2,q1,q2,q3,q4,q5,q6,q7,q8⟩:=fin_ok hE (fun p ow hp=>by
   rcases ioOuts_at hios p ow (look_io c5 p ow hp)with⟨T,xs,hg⟩|⟨T,x1,hg⟩<;>exact relAll_one hrel p _ hg) c6 c5 (fun e=>by rw[e]at hrel;exact relAll_noio hrel) hWb hr hz
  exact⟨hr.df,_,q1,rs,fo,fr,R2,rfl,q2,q3,q4,q5,q6,q7,q8⟩
 exact code_ok hE (fun n z hz=>by
  obtain⟨_,_,ow,hm⟩:=io_look hz
  exact ioSmall_spec c4 _ hm) code _ _ _ c w R _ ⟨hfin,fun i σ c w R a _ hz=>no hz,hfin⟩ h hz
end
theorem cmp_valid {P:Program}{ρ:Go.Shelf.Ren}(L:Lays.n213 P ρ):Valid P (ρ.f 213) ⟨.cons .str (.cons .str .nil), .cons (.int .i64) .nil,fun x=>some (Lib.compareBytes x.1.data.toList x.2.data.toList),[],[(false,1),(false,1)],[(false,1)],[false],[]⟩:=by
 refine⟨⟨_,L.f213,by kernel_rfl,rfl⟩,rfl,?_⟩
 intro x y hy w vs R fp hr hn hd hR hl
 cases hy
 match vs,hr with
 |[],hr=>exact hr.elim
 |[v],hr=>obtain⟨f1,f2,_,_,h⟩:=hr;exact h.elim
 |v::u::q::r,hr=>obtain⟨f1,f2,_,_,g1,g2,_,_,h⟩:=hr;exact h.elim
 |[v,u],hr=>
  obtain⟨f1,f2,rfl,h1,g1,g2,rfl,h2,h3⟩:=hr
  obtain⟨h1,rfl⟩:=h1
  obtain⟨h2,rfl⟩:=h2
  have h3:g2=[]:=h3
  subst h3
  have h1:v= .string x.1:=h1
  have h2:u= .string x.2:=h2
  subst h1
  subst h2
  refine(Any.bytealg_CompareString L x.1 x.2 w).mono ?_
  rintro e w' ⟨rfl,rfl⟩
  exact⟨[.int .i64 (Lib.compareBytes x.1.data.toList x.2.data.toList)],[],[],R,rfl,rfl,⟨[],[],rfl,⟨rfl,rfl⟩,rfl⟩,List.nodup_nil,(fun b hb=>by cases hb),(fun _ h=>h),(fun b hb=>⟨hl b hb, .inl hb⟩),⟨Nat.le_refl _,fun _ _ _=>rfl,fun _ _ h=>h,rfl,rfl,rfl⟩,fun p T x b h=>no h⟩
abbrev ci (T:ETy):ETy:= .cons (.int .i64) T
abbrev Lf.vi (n:Int):Lf:= .val (.int .i64 n)
section
variable {α β:Type}
noncomputable def at_ (E:Env)(nt:Nat):List Nat→List (St→Option α)→Code→Kt α→Code×Kt α
 |[],_,c,k=>(c,k)
 |s::p,rs, .seq a b,k=>
  match s with
  |0=>at_ E nt p rs a ⟨match E.heads (2*Code.rid b+1)with|none=>evC E nt b k|some L=>normJ (2*Code.rid b+1) L (evC E nt b k),k.e,k.r⟩
  |_=>at_ E nt p rs b k
 |s::p,rs, .cond _ a b,k=>match s with|0=>at_ E nt p rs a k|_=>at_ E nt p rs b k
 |_::p,rs, .block id c,k=>at_ E nt p rs c ⟨k.n,fun i τ=>match Nat.beq i id with|true=>k.n τ|false=>k.e i τ,k.r⟩
 |_::p,rs, .loop c,k=>
  match rs,E.heads (2*Code.rid c)with
  |r::rs,some L=>at_ E nt p rs c ⟨normK (2*Code.rid c) L r,k.e,k.r⟩
  |_,_=>(.skip,k)
 |_,_,_,k=>(.skip,k)
noncomputable def loopF (E:Env)(nt:Nat)(p:List Nat)(rs:List (St→Option α))(c:Code)(k:Kt α):(St→Option α)→St→Option α:=
 match at_ E nt p rs c k with
 |(.loop c,k)=>
  match E.heads (2*Code.rid c)with
  |some L=>fun rec τ=>evC E nt c ⟨normK (2*Code.rid c) L rec,k.e,k.r⟩ τ
  |none=>fun _ _=>none
 |_=>fun _ _=>none
noncomputable def joinF (E:Env)(nt:Nat)(p:List Nat)(rs:List (St→Option α))(c:Code)(k:Kt α):St→Option α:=
 match at_ E nt p rs c k with
 |(.seq _ b,k)=>evC E nt b k
 |_=>fun _=>none
noncomputable def ordN (E:Env)(nt rid:Nat)(ops:Array Oper)(tab:List (List Nat))(k:Nat):Nat→List Bool→St→(St→Option α)→Option α
 |0,_,_,_=>none
 |f+1,L,σ,K=>
  match rdyL tab L L 0 with
  |[]=>none
  |i::r=>
   match pickP E nt ops σ (i::r)with
   |some (j,τ)=>setL L j fun L=>ordN E nt rid ops tab k f L τ K
   |none=>
    match(i::r)[k]? with
    |some i=>(match ops[i]? with|some o=>runOps E nt rid ops [o] i σ fun σ=>setL L i fun L=>ordQ E nt rid ops tab f L σ K|none=>none)
    |none=>none
def ordM (E:Env)(nt:Nat)(ops:Array Oper)(tab:List (List Nat)):Nat→List Bool→St→Option Nat
 |0,_,_=>none
 |f+1,L,σ=>
  match rdyL tab L L 0 with
  |[]=>none
  |i::r=>
   match pickP E nt ops σ (i::r)with
   |some (j,τ)=>setL L j fun L=>ordM E nt ops tab f L τ
   |none=>some (r.length+1)
theorem ordList_get (go:Nat→Option α):∀(l pre:List Nat),ordList go l=ordList (fun k=>match(pre++l)[k]? with|some i=>go i|none=>none) (List.range' pre.length l.length)
 |[],pre=>rfl
 |[i],pre=>by
  show go i=match(pre++[i])[pre.length]? with|some i=>go i|none=>none
  simp
 |i::j::r,pre=>by
  show both (go i) (ordList go (j::r))=both (match(pre++i::j::r)[pre.length]? with|some i=>go i|none=>none) (ordList (fun k=>match(pre++i::j::r)[k]? with|some i=>go i|none=>none) (List.range' (pre.length+1) (j::r).length))
  have h:=ordList_get go (j::r) (pre++[i])
  rw[List.append_assoc,List.length_append]at h
  rw[h]
  simp
theorem ordQ_N {E:Env}{nt rid:Nat}{ops:Array Oper}{tab:List (List Nat)}{K:St→Option α}{m:Nat}:∀(f:Nat) (L:List Bool) (σ:St),ordM E nt ops tab f L σ=some m→ordQ E nt rid ops tab f L σ K=ordList (fun k=>ordN E nt rid ops tab k f L σ K) (List.range m)
 |0,L,σ,h=>by cases h
 |f+1,L,σ,h=>by
  unfold ordM at h
  unfold ordQ ordN
  split at h
  ·cases h
  ·rename_i i r hr
   rw[hr]
   dsimp only
   split at h
   ·rename_i j τ hp
    rw[setL_eq]at h
    rw[hp]
    dsimp only
    simp only[setL_eq]
    exact ordQ_N f _ _ h
   ·rename_i hp
    rw[hp]
    dsimp only
    cases h
    rw[ordList_get _ (i::r) [],List.range_eq_range']
    rfl
noncomputable def evN (E:Env)(nt k:Nat):Code→Kt α→St→Option α
 | .region id ops draw,κ,σ=>
   match draw,E.flts id with
   |true,f::_=>(match Nat.ble 1000 f&&Region.noSelect ops with|true=>falses ops.toList fun L=>ordN E nt id ops (deps ops.toList) k ops.size L σ κ.n|false=>none)
   |_,_=>none
 | .seq a b,κ,σ=>evN E nt k a ⟨match E.heads (2*Code.rid b+1)with|none=>evC E nt b κ|some L=>normJ (2*Code.rid b+1) L (evC E nt b κ),κ.e,κ.r⟩ σ
 |_,_,_=>none
def evM (E:Env)(nt:Nat):Code→St→Option Nat
 | .region id ops draw,σ=>
   match draw,E.flts id with
   |true,f::_=>(match Nat.ble 1000 f&&Region.noSelect ops with|true=>falses ops.toList fun L=>ordM E nt ops (deps ops.toList) ops.size L σ|false=>none)
   |_,_=>none
 | .seq a _,σ=>evM E nt a σ
 |_,_=>none
theorem evC_N {E:Env}{nt m:Nat}:∀(c:Code) (κ:Kt α) (σ:St),evM E nt c σ=some m→evC E nt c κ σ=ordList (fun k=>evN E nt k c κ σ) (List.range m):=by
 intro c
 induction c with
 |region id ops draw=>
  intro κ σ h
  unfold evM at h
  unfold evC evN
  split at h
  ·rename_i f fs hf
   split at h
   ·rename_i hc
    simp only[Bool.and_eq_true]at hc
    dsimp only
    unfold runDraw
    rw[hf]
    dsimp only
    rw[hc.1,hc.2]
    simp only[Bool.and_self]
    rw[falses_eq]at h
    simp only[falses_eq]
    exact ordQ_N _ _ _ h
   ·cases h
  ·cases h
 |seq a b iha ihb=>
  intro κ σ h
  unfold evM at h
  unfold evC evN
  exact iha _ σ h
 |_=>intro κ σ h;cases h
noncomputable def joinN (E:Env)(nt k:Nat)(p:List Nat)(rs:List (St→Option α))(c:Code)(κ:Kt α):St→Option α:=
 match at_ E nt p rs c κ with
 |(.seq _ b,κ)=>evN E nt k b κ
 |_=>fun _=>none
noncomputable def joinM (E:Env)(nt:Nat)(p:List Nat)(rs:List (St→Option α))(c:Code)(κ:Kt α)(σ:St):Option Nat:=
 match at_ E nt p rs c κ with
 |(.seq _ b,_)=>evM E nt b σ
 |_=>none
theorem joinF_N {E:Env}{nt m:Nat}{p:List Nat}{rs:List (St→Option α)}{c:Code}{κ:Kt α}{σ:St}(h:joinM E nt p rs c κ σ=some m):joinF E nt p rs c κ σ=ordList (fun k=>joinN E nt k p rs c κ σ) (List.range m):=by
 unfold joinM at h
 unfold joinF joinN
 split at h
 ·rename_i b κ' hc
  simp only[hc]
  exact evC_N b κ' σ h
 ·cases h
theorem both_c {a a' b b':Option α}(h:a=a')(h':b=b'):both a b=both a' b':=by rw[h,h']
def iter (g:β→β)(z:β):Nat→β
 |0=>z
 |n+1=>g (iter g z n)
theorem loopN_s {α:Type}(F:(St→Option α)→St→Option α)(n:Nat)(σ:St):loopN F (n+1) σ=F (loopN F n) σ:=rfl
theorem loopN_z {α:Type}(F:(St→Option α)→St→Option α)(σ:St):loopN F 0 σ=none:=rfl
noncomputable def KK :Nat:=Classical.choose (p:=fun n=>n=18446744073709551616) ⟨_,rfl⟩
theorem KK_eq :KK=18446744073709551616:=Classical.choose_spec (p:=fun n=>n=18446744073709551616) ⟨_,rfl⟩
noncomputable def ktOf (E:Env)(con:Con)(fn:Func)(x:con.A.den):Kt con.B.den:=⟨fin E con fn.results.toList x,fun _ _=>none,fin E con fn.results.toList x⟩
def codeOf (fn:Func):Code:=fn.body.getD .skip
end
def tyAll (P:Program):List (Nat×TI)→Bool
 |[]=>true
 |(t,i)::r=>tiChk P t i&&tyAll P r
theorem ty_ok {P:Program}:∀{l:List (Nat×TI)},tyAll P l=true→∀t i,look l t=some i→TiOk P t i
 |[],_,t,i,h=>no h
 |(s,j)::r,h,t,i,hl=>by
  simp only[tyAll,Bool.and_eq_true]at h
  rw[look_cons]at hl
  by_cases e:t=s
  ·rw[if_pos e]at hl
   cases hl
   subst e
   exact tiOk h.1
  ·rw[if_neg e]at hl
   exact ty_ok h.2 t i hl
def TabOk (P:Program)(l:List (Nat×Con)):Prop:=∀g con,look l g=some con→Valid P g con
theorem tab_nil {P:Program}:TabOk P []:=fun _ _ h=>no h
theorem tab_cons {P:Program}{g:Nat}{con:Con}{l:List (Nat×Con)}(h:Valid P g con)(h':TabOk P l):TabOk P ((g,con)::l):=by
 intro k c hl
 rw[look_cons]at hl
 by_cases e:k=g
 ·rw[if_pos e]at hl
  cases hl
  subst e
  exact h
 ·rw[if_neg e]at hl
  exact h' k c hl
noncomputable abbrev mkE (tys:List (Nat×TI))(tab:List (Nat×Con))(heads:List (Nat×List Nat×Cv))(pre:List (Nat×Nat))(shallow:List Nat)(movs:List (Nat×List Nat))(flts:List (Nat×List Nat)):Env:=
 {ty:=look tys,tab:=fun _=>look tab,heads:=look heads,pre:=fun n=>(look pre n).getD 0,deep:=fun n=> !(mem shallow n),movs:=fun n=>(look movs n).getD [],flts:=fun n=>(look flts n).getD [],K:=KK}
theorem env_ok {P:Program}{tys:List (Nat×TI)}{tab:List (Nat×Con)}{heads:List (Nat×List Nat×Cv)}{pre:List (Nat×Nat)}{shallow:List Nat}{movs:List (Nat×List Nat)}{flts:List (Nat×List Nat)}(hm:P.follows .mixedOrders=true)(ht:tyAll P tys=true)(h:TabOk P tab):
 EnvOk P (mkE tys tab heads pre shallow movs flts):=⟨ty_ok ht,fun _=>h,hm⟩
noncomputable abbrev mkE2 (tys:List (Nat×TI))(tab:List (Nat×Con))(sites:List Nat)(tab2:List (Nat×Con))(heads:List (Nat×List Nat×Cv))(pre:List (Nat×Nat))(shallow:List Nat)(movs:List (Nat×List Nat))(flts:List (Nat×List Nat)):Env:=
 {ty:=look tys,tab:=fun s=>look (match mem sites s with|true=>tab2|false=>tab),heads:=look heads,pre:=fun n=>(look pre n).getD 0,deep:=fun n=> !(mem shallow n),movs:=fun n=>(look movs n).getD [],flts:=fun n=>(look flts n).getD [],K:=KK}
theorem env_ok2 {P:Program}{tys:List (Nat×TI)}{tab:List (Nat×Con)}{sites:List Nat}{tab2:List (Nat×Con)}{heads:List (Nat×List Nat×Cv)}{pre:List (Nat×Nat)}{shallow:List Nat}{movs:List (Nat×List Nat)}{flts:List (Nat×List Nat)}(hm:P.follows .mixedOrders=true)(ht:tyAll P tys=true)(h:TabOk P tab)(h2:TabOk P tab2):
 EnvOk P (mkE2 tys tab sites tab2 heads pre shallow movs flts):=by
 refine⟨ty_ok ht,fun s g con hl=> ?_,hm⟩
 dsimp only at hl
 cases hm:mem sites s with
 |true=>rw[hm]at hl;exact h2 g con hl
 |false=>rw[hm]at hl;exact h g con hl
theorem w64 {n:Int}(h0: -9223372036854775808≤n)(h1:n<9223372036854775808):IntKind.i64.wrap n=n:=by
 rw[IntKind.wrap_i64];omega
theorem w64_succ {i:Nat}(h:i<4611686018427387904):IntKind.i64.wrap ((i:Int)+1)=((i+1:Nat):Int):=by
 rw[w64 (by omega) (by omega)];omega
theorem idx_ind {len:Nat}{P:Nat→Nat→Prop}(last:∀n,P len (n+1))(step:∀i n,i<len→P (i+1) n→P i (n+1)):∀i n,i≤len→len-i<n→P i n:=by
 intro i n hi hn
 have:∀k i n,i+k=len→k<n→P i n:=by
  intro k
  induction k with
  |zero=>
   intro i n hi hn
   have:i=len:=by omega
   subst this
   match n,hn with
   |n+1,_=>exact last n
  |succ k ih=>
   intro i n hi hn
   match n,hn with
   |n+1,hn=>exact step i n (by omega) (ih (i+1) n (by omega) (by omega))
 exact this (len-i) i n (by omega) (by omega)
theorem lt_t {a b:Nat}(h:a<b):decide ((a:Int)<(b:Int))=true:=decide_eq_true (by omega)
theorem lt_f {a b:Nat}(h:b≤a):decide ((a:Int)<(b:Int))=false:=decide_eq_false (by omega)
theorem ge_t {a:Nat}:decide ((0:Int)≤(a:Int))=true:=decide_eq_true (by omega)
theorem at_i {α:Type}{xs:List α}{i:Nat}(h:i<xs.length)(d:α):xs.getD ((i:Int).toNat) d=xs[i]:=by
 simp[List.getD,h]
theorem at_n {α:Type}{xs:List α}{i:Nat}(h:i<xs.length)(d:α):xs.getD i d=xs[i]:=by
 simp[List.getD,h]
theorem cond_t {α:Type}(a b:α):(bif true then a else b)=a:=congrFun (f:=fun(_:Unit)=>bif true then a else b) (g:=fun _=>a) rfl ()
theorem cond_f {α:Type}(a b:α):(bif false then a else b)=b:=congrFun (f:=fun(_:Unit)=>bif false then a else b) (g:=fun _=>b) rfl ()
theorem iter_s {β:Type}(g:β→β)(z:β)(n:Nat):iter g z (n+1)=g (iter g z n):=congrFun (f:=fun(_:Unit)=>iter g z (n+1)) (g:=fun _=>g (iter g z n)) rfl ()
theorem bind_s {α β:Type}(a:α)(f:α→Option β):(some a).bind f=f a:=congrFun (f:=fun(_:Unit)=>(some a).bind f) (g:=fun _=>f a) rfl ()
theorem both_eq {α:Type}(x:Option α):both x x=x:=by
 unfold both
 split
 ·rfl
 ·rename_i h
  exact absurd rfl h
theorem KK_gt {n:Nat}(h:n<4611686018427387904):n<KK:=by
 rw[KK_eq];omega
theorem drop_eq {α:Type}{xs ys:List α}{i:Nat}(h:i<xs.length)(h':i<ys.length):(xs.drop i=ys.drop i)↔(xs[i]=ys[i]∧xs.drop (i+1)=ys.drop (i+1)):=by
 rw[List.drop_eq_getElem_cons h,List.drop_eq_getElem_cons h',List.cons.injEq]
theorem dec_step {p q r:Prop}[Decidable p][Decidable q][Decidable r](h:p↔(q∧r)):decide p=(decide q&&decide r):=by
 by_cases hq:q<;>by_cases hr:r<;>simp[h,hq,hr]
theorem len_ne {a b:Nat}(h:a≠b):(((a:Int)) !=(b:Int))=true:=by
 simp;omega
theorem len_eq {a b:Nat}(h:a=b):(((a:Int)) !=(b:Int))=false:=by
 simp[h]
theorem bne_self (a:Int):(a !=a)=false:=by simp
theorem fill_set {α:Type}{xs ys:List α}{i:Nat}{y:α}(h:ys=xs.take i++List.replicate (xs.length-i) y)(hi:i<xs.length):ys.set i xs[i]=xs.take (i+1)++List.replicate (xs.length-(i+1)) y:=by
 subst h
 apply List.ext_getElem?
 intro j
 rw[List.getElem?_set]
 by_cases hj:i=j
 ·subst hj
  rw[if_pos rfl,if_pos (by simp;omega),List.getElem?_append_left (by simp;omega)]
  simp[hi]
 ·rw[if_neg hj]
  by_cases hl:j<i
  ·rw[List.getElem?_append_left (by simp;omega),List.getElem?_append_left (by simp;omega)]
   rw[List.getElem?_take_of_lt hl,List.getElem?_take_of_lt (by omega)]
  ·rw[List.getElem?_append_right (by simp;omega),List.getElem?_append_right (by simp;omega)]
   simp[List.getElem?_replicate]
   have e1:min i xs.length=i:=by omega
   have e2:min (i+1) xs.length=i+1:=by omega
   rw[e1,e2]
   by_cases h3:j<xs.length
   ·rw[if_pos (by omega),if_pos (by omega)]
   ·rw[if_neg (by omega),if_neg (by omega)]
end V
end Go.Proofs.YtcbeaoigenjoeaeGreat
