/- A verified symbolic evaluator, part C. -/
import Derived.Test.YtcbeaoigenjoeaeGreatVB
namespace Go.Proofs.YtcbeaoigenjoeaeGreat
namespace V
set_option linter.unusedSimpArgs false
set_option linter.unusedVariables false
section
variable {P:Program} {E:Env} {F:Fr} {c:Cc} {w:World} {R:Cls} {σ:St} {a:Act} {site:Nat} {o:Oper} {d:D}
inductive Dst (H:Hp)(T:ETy)(s x:Lf):List T.den→Bool→List Nat→Prop where
 |nilFlat:s= .nil0→T.flat=true→Dst H T s x [] true []
 |nilRef (m:Nat) (T':ETy) (dd:Bool) (zs:List T'.den):s= .nil0→x= .ref m→look H m=some (.row T' dd zs)→Dst H T s x [] dd [m]
 |nilVal (g:Sg):s= .nil0→x= .val g→Dst H T s x [] false []
 |flat (n:Nat) (dd:Bool) (xs:List T.den):s= .ref n→look H n=some (.row T dd xs)→T.flat=true→Dst H T s x xs dd [n]
 |both (n m:Nat) (dd d':Bool) (xs:List T.den) (T':ETy) (zs:List T'.den):s= .ref n→x= .ref m→look H n=some (.row T dd xs)→look H m=some (.row T' d' zs)→m≠n→Dst H T s x xs (dd&&d') [n,m]
 |val (n:Nat) (g:Sg) (xs:List T.den):s= .ref n→x= .val g→look H n=some (.row T false xs)→Dst H T s x xs false [n]
theorem beq_ne {m n:Nat}(h:Nat.beq m n=false):m≠n:=by
 rintro rfl
 simp at h
theorem put_some {T:ETy}{N:Nat}{dd:Bool}{xs ys:List T.den}{ds:List Nat}(h:(bif decide (xs.length+ys.length<lim)then some (D.mk (.v false [.ref N]) [(N, .row T dd (xs++ys))] ds [])else none)=some d):
 xs.length+ys.length<lim∧d=⟨.v false [.ref N],[(N, .row T dd (xs++ys))],ds,[]⟩:=by
 by_cases hl:xs.length+ys.length<lim
 ·rw[decide_eq_true hl,cond_true]at h
  exact⟨hl,(Option.some.inj h).symm⟩
 ·rw[decide_eq_false hl,cond_false]at h
  exact no h
theorem appendE_cases {H:Hp}{T:ETy}{s x:Lf}(h:appendE E H site T s x some=some d):
 (x= .nil0∧isRow H s=true∧d=⟨.v false [s],[],[],[]⟩)∨
 ∃(ys xs:List T.den) (dd:Bool) (ds:List Nat),frzR H (.sl T) x=some ys∧xs.length+ys.length<lim∧d=⟨.v false [.ref (site*64)],[(site*64, .row T dd (xs++ys))],ds,[]⟩∧Dst H T s x xs dd ds:=by
 unfold appendE at h
 split at h
 ·left
  split at h
  ·rename_i hr
   exact⟨rfl,hr,(Option.some.inj h).symm⟩
  ·exact no h
 ·right
  split at h
  ·exact no h
  ·rename_i ys hys
   split at h
   ·split at h
    ·rename_i hf _
     obtain⟨h1,h2⟩:=put_some h
     exact⟨ys,[],true,[],hys,h1,h2, .nilFlat rfl hf⟩
    ·rename_i m _ _
     split at h
     ·rename_i T' dd zs hl
      obtain⟨h1,h2⟩:=put_some h
      exact⟨ys,[],dd,[m],hys,h1,h2, .nilRef m T' dd zs rfl rfl hl⟩
     ·exact no h
    ·rename_i g _ _
     obtain⟨h1,h2⟩:=put_some h
     exact⟨ys,[],false,[],hys,h1,h2, .nilVal g rfl rfl⟩
    ·exact no h
   ·rename_i n
    split at h
    ·rename_i T' dd xs' hl
     split at h
     ·exact no h
     ·rename_i xs hc
      obtain⟨e,hx⟩:=ETy.casts?_some hc
      subst e
      subst hx
      split at h
      ·rename_i hf _
       obtain⟨h1,h2⟩:=put_some h
       exact⟨ys,xs',_,[n],hys,h1,h2, .flat n _ xs' rfl hl hf⟩
      ·rename_i m dd' _
       split at h
       ·rename_i T2 d' zs hm hne
        obtain⟨h1,h2⟩:=put_some h
        exact⟨ys,xs',_,[n,m],hys,h1,h2, .both n m _ d' xs' T2 zs rfl rfl hl hm (beq_ne hne)⟩
       ·exact no h
      ·rename_i g _ _
       obtain⟨h1,h2⟩:=put_some h
       exact⟨ys,xs',false,[n],hys,h1,h2, .val n g xs' rfl rfl hl⟩
      ·exact no h
    ·exact no h
   ·exact no h
end
theorem add_at (b o j:Nat):(⟨b,o,none⟩:Addr).add j=⟨b,o+j,none⟩:=by unfold Addr.add;split<;>simp_all
theorem ro_ones {w:World}{R:Cls}{gs:List Sg}{vs:List Value}(h:All2 (Sg.ro w R) gs vs):∀u∈vs,u.oneCell'=true:=contV_one (dd:=false) (fr:=[]) ⟨rfl,h⟩
theorem src_ro {P:Program}{w:World}{R:Cls}{T:ETy}{ys:List T.den}{v:Value}{size tx e':Nat}(hk:P.underlying tx=some (.slice e'))(hsz:size=T.len)(h:(Sg.sl T ys).ro w R v):
 ∃us,Src P size tx v ys.length us w∧All2 (Sg.ro w R) (flatG T ys) us:=by
 rcases h with⟨h0,ad,cp,rfl⟩|⟨b,o,cp,rfl,_,_,hx⟩
 ·subst h0
  refine⟨[],?_,trivial⟩
  cases ad with
  |none=>exact Src.ofNil w hk cp
  |some ad=>exact Src.ofSlice w hk ad 0 cp [] (by simp) (fun j u hj=>by simp at hj) (fun u hu=>by cases hu)
 ·obtain⟨us,h1,h2⟩:=cellsRo_vals (rowRo_cells.1 hx)
  refine⟨us,Src.ofSlice w hk ⟨b,o,none⟩ _ cp us ?_ (fun j u hj=> ?_) (ro_ones h2),h2⟩
  ·rw[←h2.length,flatG_length,hsz]
  ·rw[add_at]
   exact h1 j u hj
section
variable {P:Program} {E:Env} {F:Fr} {c:Cc} {w:World} {R:Cls} {σ:St} {a:Act} {site:Nat} {o:Oper} {d:D}
theorem src_ref (h:Rel F c w R σ a){m:Nat}{T:ETy}{dd:Bool}{ys:List T.den}{v:Value}{size tx e':Nat}(hk:P.underlying tx=some (.slice e'))(hsz:size=T.len)(hm:look σ.heap m=some (.row T dd ys))(hv:(Lf.ref m).rel c w R σ.heap v):
 ∃us fr,Src P size tx v ys.length us w∧contV w R (flatG T ys) us fr dd∧(∀b∈fr,b∈c.fp m)∧fr.Nodup:=by
 have hnd:=h.nd m _ hm
 rcases row_cont h hm hv with⟨h0,_,ad,rfl⟩|⟨b,o,cp,fr,us,_,rfl,_,_,hfp,hat,hc⟩
 ·subst h0
  refine⟨[],[],?_,contV_nil,fun b hb=>(by cases hb),List.nodup_nil⟩
  cases ad with
  |none=>exact Src.ofNil w hk 0
  |some ad=>exact Src.ofSlice w hk ad 0 0 [] (by simp) (fun j u hj=>by simp at hj) (fun u hu=>by cases hu)
 ·rw[hfp]at hnd
  refine⟨us,fr,Src.ofSlice w hk ⟨b,o,none⟩ _ cp us ?_ (fun j u hj=> ?_) (contV_one hc),hc,fun b' hb'=>by rw[hfp];simp[hb'],(List.nodup_cons.1 hnd).2⟩
  ·rw[←contV_length hc,flatG_length,hsz]
  ·rw[add_at]
   exact hat j u hj
theorem refAs_row {H:Hp}{T:ETy}{m:Nat}{ys:List T.den}{T':ETy}{dd:Bool}{zs:List T'.den}(hf:frzR H (.sl T) (.ref m)=some ys)(hm:look H m=some (.row T' dd zs)):look H m=some (.row T dd ys):=by
 have:rowAs H m T=some ys:=hf
 unfold rowAs at this
 rw[hm]at this
 obtain⟨e,hx⟩:=ETy.casts?_some this
 subst e
 subst hx
 exact hm
theorem op_append (hE:EnvOk P E)(h:Rel F c w R σ a){cl:Call}{s x:Lf}{t u:Nat}{i i' j:TI}{e':Nat}(hop:o.op= .call cl)(hb:cl.callee= .builtin .append)(hav:avs σ cl.args.toList=some [(false,[s]),(false,[x])])(htt:cl.argTypes.toList=[t,u])
 (hi:E.ty t=some i) (hi':E.ty u=some i') (hj:tyE E i=some j) (hby:j.bytes≤1024) (hTl:j.T.len=j.zero.length) (hk:i'.k= .sl e') (hd:appendE E σ.heap site j.T s x some=some d)
 (hok:dOk σ d=true) (hF:∀n z,look F.io n=some z→n<1000) (hs:1000≤site):Does P o a w (Post F σ a d):=by
 obtain⟨e,hu,hjo⟩:=tyE_ok hE (t:=t) (j:=j) (by rw[hi];exact hj)
 obtain⟨du,hu',_,_,_,hsl',_⟩:=(hE.ty u i' hi').und
 have hk':P.underlying u=some (.slice e'):=by rw[hu',hsl' e' hk]
 obtain⟨info,z,hin,hsz,hbyi,h1l,hz,hzc,_⟩:=hjo.info
 obtain⟨sv,xv,hv1,hsv,hxv⟩:∃sv xv,cl.args.toList.map a.eval=[sv,xv]∧V1.rel c w R σ.heap false [s] sv∧V1.rel c w R σ.heap false [x] xv:=by
  have:=avs_rel h hav
  match hm:cl.args.toList.map a.eval,this with
  |[sv,xv],this=>exact⟨sv,xv,rfl,this.1,this.2.1⟩
 obtain⟨y1,y2,hy,hy1,hy2⟩:=arr_two hv1
 have hsv:=V1.one hsv
 have hxv:=V1.one hxv
 have hat:=toList_two htt
 have hop':∀{v w'},(Builtin.append_ #[t,u] o.type #[sv,xv]).run P w= .ok v w'→(execOp a.eval o).run P w= .ok (.value v) w':=by
  intro v w' hr
  simp[execOp,hop,hb,resolve,hy,hy1,hy2,invoke,builtin,hat,hr]
 have hN:1000≤site*64:=by omega
 have hsT:info.size=j.T.len:=by omega
 rcases appendE_cases hd with⟨hx0,hrow,rfl⟩|⟨ys,xs,dd,ds,hys,hlim,rfl,hD⟩
 ·subst hx0
  obtain⟨ad,rfl⟩:=hxv
  have hsrc:Src P info.size u (.slice ad 0 0) 0 [] w:=by
   cases ad with
   |none=>exact Src.ofNil w hk' 0
   |some ad=>exact Src.ofSlice w hk' ad 0 0 [] (by simp) (fun j u hj=>by simp at hj) (fun u hu=>by cases hu)
  have hsl:∃ad n cp,sv= .slice ad n cp∧n≤cp:=by
   unfold isRow at hrow
   split at hrow
   ·obtain⟨ad,rfl⟩:=hsv;exact⟨ad,0,0,rfl,Nat.le_refl _⟩
   ·rcases hsv with⟨_,ad,cp,rfl⟩|⟨b,o,cp,rfl,_,hl,_⟩
    ·exact⟨ad,0,cp,rfl,Nat.zero_le _⟩
    ·exact⟨_,_,cp,rfl,hl⟩
   ·split at hrow
    ·rename_i T dd xs hn
     rcases row_at h hn hsv with⟨_,_,ad,rfl⟩|⟨b,o,cp,_,rfl,hl,_⟩
     ·exact⟨ad,0,0,rfl,Nat.le_refl _⟩
     ·exact⟨_,_,cp,rfl,hl.1⟩
    ·cases hrow
   ·cases hrow
  obtain⟨ad,n,cp,rfl,hl⟩:=hsl
  exact Does.run (hop' (append_stay hu hin hsrc hl)) (Post.pure h ⟨_,rfl,hsv⟩)
 ·have app:∀{vs us:List Value} {fr:List Nat} {R':Cls},Src P info.size u xv ys.length us w→
   ((xs=[]∧vs=[]∧∃ad,sv= .slice ad 0 0)∨∃n en b o cp,look σ.heap n=some en∧n∈ds∧b∈c.fp n∧b∉fr∧¬R' b∧sv= .slice (some ⟨b,o,none⟩) xs.length cp∧fits xs.length cp∧blk w b (o+cp*j.T.len)∧cellsAt w b o vs)→
   (∀b,R b→R' b)→(∀b,R' b→R b∨∃m e,look σ.heap m=some e∧m∈ds∧b∈c.fp m)→fr.Nodup→(∀b∈fr,¬R' b∧∃m e,look σ.heap m=some e∧m∈ds∧b∈c.fp m)→
   contV w R' (flatG j.T (xs++ys)) (vs++us) fr dd→vs.length=xs.length*j.T.len→Does P o a w (Post F σ a ⟨.v false [.ref (site*64)],[(site*64, .row j.T dd (xs++ys))],ds,[]⟩):=by
   intro vs us fr R' hsrc hdst hR hR' hfn hfr hc hvl
   obtain⟨v,w',hr,hp⟩:=append_post (ty:=o.type) h hok hF hN hu hin hz (by omega) (by omega) (by omega) hsrc hdst hR hR' hfn hfr hc hvl hlim
   exact Does.run (hop' hr) hp
  have flatSrc:j.T.flat=true→∃us,Src P info.size u xv ys.length us w∧∀dd,contV w R (flatG j.T ys) us [] dd:=by
   intro hf
   have hro:(Sg.sl j.T ys).ro w (fun _=>True) xv:=frzR_ro (t:= .sl j.T) h (R':=fun _=>True) (fun _ _=>trivial) (fun _ _ _ _ _ _=>trivial) hys hxv
   obtain⟨us,h1,h2⟩:=src_ro (R:=fun _=>True) hk' hsT hro
   exact⟨us,h1,fun dd=>contV_flat (w:=w) (R:=fun _=>True) (dd:=false) (fr:=[]) hf dd ⟨rfl,h2⟩⟩
  have valSrc:∀g,x= .val g→∃us,Src P info.size u xv ys.length us w∧contV w R (flatG j.T ys) us [] false:=by
   rintro g rfl
   have hg:LTy.sg (.sl j.T) ys=g:=LTy.get_sg hys
   obtain⟨us,h1,h2⟩:=src_ro (R:=R) (ys:=ys) hk' hsT (by rw[←hg]at hxv;exact hxv)
   exact⟨us,h1,rfl,h2⟩
  cases hD with
  |nilFlat hs0 hf=>
   subst hs0
   obtain⟨us,h1,h2⟩:=flatSrc hf
   exact app (vs:=[]) (R':=R) h1 (.inl ⟨rfl,rfl,hsv⟩) (fun _ h=>h) (fun b hb=> .inl hb) List.nodup_nil (fun b hb=>by cases hb) (h2 true) (by simp)
  |nilRef m T' _ zs hs0 hxm hm=>
   subst hs0
   subst hxm
   obtain⟨us,fr,h1,h2,h3,h4⟩:=src_ref h hk' hsT (refAs_row hys hm) hxv
   exact app (vs:=[]) (R':=R) h1 (.inl ⟨rfl,rfl,hsv⟩) (fun _ h=>h) (fun b hb=> .inl hb) h4 (fun b hb=>⟨(h.nr m _ hm b (h3 b hb)).1,m,_,hm,by simp,h3 b hb⟩) h2 (by simp)
  |nilVal g hs0 hxg=>
   subst hs0
   obtain⟨us,h1,h2⟩:=valSrc g hxg
   exact app (vs:=[]) (R':=R) h1 (.inl ⟨rfl,rfl,hsv⟩) (fun _ h=>h) (fun b hb=> .inl hb) List.nodup_nil (fun b hb=>by cases hb) h2 (by simp)
  |flat n _ _ hs0 hn hf=>
   subst hs0
   obtain⟨us,h1,h2⟩:=flatSrc hf
   rcases row_cont h hn hsv with⟨h0,_,ad,hsv⟩|⟨b,o',cp,fr,vs,_,hsv,hl,hbk,hfp,hat',hc⟩
   ·subst h0
    exact app (vs:=[]) (R':=R) h1 (.inl ⟨rfl,rfl,ad,hsv⟩) (fun _ h=>h) (fun b hb=> .inl hb) List.nodup_nil (fun b hb=>by cases hb) (h2 dd) (by simp)
   ·have hbn:b∈c.fp n:=by rw[hfp];simp
    refine app (vs:=vs) (fr:=[]) (R':=R) h1 (.inr ⟨n,_,b,o',cp,hn,by simp,hbn,by simp,(h.nr n _ hn b hbn).1,hsv,hl,hbk,hat'⟩) (fun _ h=>h) (fun b hb=> .inl hb) List.nodup_nil (fun b hb=>by cases hb) ?_ ?_
    ·rw[flatG_append]
     exact contV_append (f:=[]) (g:=[]) (contV_flat (w:=w) hf dd hc) (h2 dd)
    ·rw[←contV_length hc,flatG_length]
  |both n m dn d' _ T' zs hs0 hxm hn hm hne=>
   subst hs0
   subst hxm
   have hm':=refAs_row hys hm
   obtain⟨us,frm,h1,h2,h3,h4⟩:=src_ref h hk' hsT hm' hxv
   have hmb:∀b∈frm,∃m' e,look σ.heap m'=some e∧m'∈[n,m]∧b∈c.fp m':=fun b hb=>⟨m,_,hm,by simp,h3 b hb⟩
   cases hdd':(dn&&d')with
   |true=>
    rw[hdd']at app
    simp only[Bool.and_eq_true]at hdd'
    obtain⟨rfl,rfl⟩:=hdd'
    rcases row_cont h hn hsv with⟨h0,_,ad,hsv⟩|⟨b,o',cp,fr,vs,_,hsv,hl,hbk,hfp,hat',hc⟩
    ·subst h0
     exact app (vs:=[]) (R':=R) h1 (.inl ⟨rfl,rfl,ad,hsv⟩) (fun _ h=>h) (fun b hb=> .inl hb) h4 (fun b hb=>⟨(h.nr m _ hm b (h3 b hb)).1,hmb b hb⟩) h2 (by simp)
    ·have hbn:b∈c.fp n:=by rw[hfp];simp
     have hnd:=h.nd n _ hn
     rw[hfp,List.nodup_cons]at hnd
     have hdj:∀k∈c.fp n,k∉frm:=fun k hk hk'=>h.dj n _ m _ (Ne.symm hne) hn hm k hk (h3 k hk')
     refine app (vs:=vs) (fr:=fr++frm) (R':=R) h1 (.inr ⟨n,_,b,o',cp,hn,by simp,hbn,?_,(h.nr n _ hn b hbn).1,hsv,hl,hbk,hat'⟩) (fun _ h=>h) (fun b hb=> .inl hb) ?_ (fun k hk=> ?_) ?_ ?_
     ·intro hk
      rcases List.mem_append.1 hk with hk|hk
      ·exact hnd.1 hk
      ·exact hdj b hbn hk
     ·rw[List.nodup_append]
      exact⟨hnd.2,h4,fun k hk k' hk' e=>hdj k (by rw[hfp];simp[hk]) (e▸hk')⟩
     ·rcases List.mem_append.1 hk with hk|hk
      ·have hkn:k∈c.fp n:=by rw[hfp];simp[hk]
       exact⟨(h.nr n _ hn k hkn).1,n,_,hn,by simp,hkn⟩
      ·exact⟨(h.nr m _ hm k (h3 k hk)).1,hmb k hk⟩
     ·rw[flatG_append]
      exact contV_append hc h2
     ·rw[←contV_length hc,flatG_length]
   |false=>
    rw[hdd']at app
    rcases row_cont h hn hsv with⟨h0,_,ad,hsv⟩|⟨b,o',cp,fr,vs,_,hsv,hl,hbk,hfp,hat',hc⟩
    ·subst h0
     have hRR:∀b,R b→(R b∨b∈c.fp m):=fun b hb=> .inl hb
     have h2':contV w (fun b=>R b∨b∈c.fp m) (flatG j.T ys) us [] false:=
      contV_down d' (fun b hb=> .inr (h3 b hb)) (contV_same (w:=w) (w':=w) (R:=R) (fun _ _=>rfl) (fun _ _=>rfl) hRR h2)
     have hR2:∀b,(R b∨b∈c.fp m)→R b∨∃m' e,look σ.heap m'=some e∧m'∈[n,m]∧b∈c.fp m':=by
      rintro b (hb|hb)
      ·exact .inl hb
      ·exact .inr ⟨m,_,hm,by simp,hb⟩
     exact app (vs:=[]) (R':=fun b=>R b∨b∈c.fp m) h1 (.inl ⟨rfl,rfl,ad,hsv⟩) hRR hR2 List.nodup_nil (fun b hb=>by cases hb) h2' (by simp)
    ·have hbn:b∈c.fp n:=by rw[hfp];simp
     have hnd:=h.nd n _ hn
     rw[hfp,List.nodup_cons]at hnd
     have hRR:∀b,R b→(R b∨b∈c.fp m∨b∈fr):=fun b hb=> .inl hb
     have h2':contV w (fun b=>R b∨b∈c.fp m∨b∈fr) (flatG j.T ys) us [] false:=
      contV_down d' (fun b hb=> .inr (.inl (h3 b hb))) (contV_same (w:=w) (w':=w) (R:=R) (fun _ _=>rfl) (fun _ _=>rfl) hRR h2)
     have hR2:∀b,(R b∨b∈c.fp m∨b∈fr)→R b∨∃m' e,look σ.heap m'=some e∧m'∈[n,m]∧b∈c.fp m':=by
      rintro k (hb|hb|hb)
      ·exact .inl hb
      ·exact .inr ⟨m,_,hm,by simp,hb⟩
      ·exact .inr ⟨n,_,hn,by simp,by rw[hfp];simp[hb]⟩
     refine app (vs:=vs) (fr:=[]) (R':=fun b=>R b∨b∈c.fp m∨b∈fr) h1 (.inr ⟨n,_,b,o',cp,hn,by simp,hbn,by simp,?_,hsv,hl,hbk,hat'⟩) hRR hR2 List.nodup_nil (fun b hb=>by cases hb) ?_ ?_
     ·rintro(hb|hb|hb)
      ·exact(h.nr n _ hn b hbn).1 hb
      ·exact h.dj n _ m _ (Ne.symm hne) hn hm b hbn hb
      ·exact hnd.1 hb
     ·rw[flatG_append]
      exact contV_append (f:=[]) (g:=[]) (contV_down dn (fun b hb=> .inr (.inr hb)) (contV_same (w:=w) (w':=w) (fun _ _=>rfl) (fun _ _=>rfl) hRR hc)) h2'
     ·rw[←contV_length hc,flatG_length]
  |val n g _ hs0 hxg hn=>
   subst hs0
   obtain⟨us,h1,h2⟩:=valSrc g hxg
   rcases row_cont h hn hsv with⟨h0,_,ad,hsv⟩|⟨b,o',cp,fr,vs,_,hsv,hl,hbk,hfp,hat',hc⟩
   ·subst h0
    exact app (vs:=[]) (R':=R) h1 (.inl ⟨rfl,rfl,ad,hsv⟩) (fun _ h=>h) (fun b hb=> .inl hb) List.nodup_nil (fun b hb=>by cases hb) h2 (by simp)
   ·have hbn:b∈c.fp n:=by rw[hfp];simp
    have hf0:fr=[]:=hc.1
    subst hf0
    refine app (vs:=vs) (fr:=[]) (R':=R) h1 (.inr ⟨n,_,b,o',cp,hn,by simp,hbn,by simp,(h.nr n _ hn b hbn).1,hsv,hl,hbk,hat'⟩) (fun _ h=>h) (fun b hb=> .inl hb) List.nodup_nil (fun b hb=>by cases hb) ?_ ?_
    ·rw[flatG_append]
     exact contV_append (f:=[]) (g:=[]) hc h2
    ·rw[←contV_length hc,flatG_length]
end
theorem zeros_at' {z arr:Array Value}{b:Nat}{w1:World}{e m:Nat}(hz:0<z.size)(hb:b=w1.heap.size)(ha:∀q,q<m*z.size→arr[q]? =some z[q%z.size]!):∀i,i<m→cellsAt (w1.alloc (.cells arr e)) b (0+i*z.size) z.toList:=by
 intro i hi j v hj
 rw[Array.getElem?_toList]at hj
 have hjl:j<z.size:=(Array.getElem?_eq_some_iff.1 hj).1
 have hlt:i*z.size+j<m*z.size:=by
  have:(i+1)*z.size≤m*z.size:=Nat.mul_le_mul_right _ hi
  rw[Nat.add_mul]at this
  omega
 subst hb
 unfold World.cell?
 rw[show(⟨w1.heap.size,0+i*z.size+j,none⟩:Addr).block=w1.heap.size from rfl,alloc_new]
 have hmod:(i*z.size+j)%z.size=j:=by rw[Nat.add_comm,Nat.add_mul_mod_self_right];exact Nat.mod_eq_of_lt hjl
 simp only[Option.isSome_none,Bool.false_eq_true,if_false,Nat.zero_add]
 rw[ha _ hlt,hmod,getElem!_pos z j hjl]
 rw[Array.getElem?_eq_getElem hjl]at hj
 exact hj
theorem zeroCells_get {z:Array Value}{n q:Nat}(h:q<n*z.size):(Builtin.zeroCells z n)[q]? =some z[q%z.size]! :=by
 unfold Builtin.zeroCells
 rw[Array.getElem?_map,Array.getElem?_range]
 simp[h]
theorem zeroCells_size {z:Array Value}{n:Nat}:(Builtin.zeroCells z n).size=n*z.size:=by simp[Builtin.zeroCells]
section
variable {P:Program} {E:Env} {F:Fr} {c:Cc} {w:World} {R:Cls} {σ:St} {a:Act} {site:Nat} {o:Oper} {d:D}
theorem run_append_zeros {t tx ty e:TypeId}{i:TypeInfo}{z:Value}{k' k:IntKind}{m:Int}{ad:Option Addr}(ht:P.underlying t=some (.slice e))(htx:P.underlying tx=some (.int k'))(hi:P.info? e=some i)(hz:i.zero=some z)
 (hm0:0<m) (hml:m<(lim:Int)) (hby:i.bytes≤1024) (hs:1≤i.size):
 (Builtin.append_ #[t,tx] ty #[.slice ad 0 0, .int k m]).run P w=
  .ok (.slice (some ⟨w.heap.size,0,none⟩) m.toNat (grownCap w m.toNat 0 e)) (w.drew.alloc (.cells (Builtin.zeroCells z.cells m.toNat++Builtin.zeroCells z.cells (grownCap w m.toNat 0 e-m.toNat)) e)):=by
 have hlim:(lim:Int)=68719476736:=rfl
 have hw:IntKind.i64.wrap m=m:=wrap_small (by omega) (by omega)
 have hneg:¬m<0:=by omega
 have hn:¬(m.toNat≤0):=by omega
 have hn0:m.toNat≠0:=by omega
 have hbig:¬(m*(i.bytes:Int)>281474976710656):=by
  have h3:m*(i.bytes:Int)≤m*1024:=Int.mul_le_mul_of_nonneg_left (by omega) (by omega)
  omega
 have hbig':¬((281474976710656:Int)<m*(i.bytes:Int)):=by omega
 have h63:¬((9223372036854775807:Int)<(m.toNat:Int)):=by omega
 have hcap:¬(281474976710656<Builtin.nextslicecap m.toNat 0*i.bytes):=by
  have h1:=nextcap_le (n:=m.toNat) (c:=0) (by omega)
  have h2:Builtin.nextslicecap m.toNat 0*i.bytes≤(2*m.toNat)*1024:=Nat.mul_le_mul h1 hby
  omega
 have hmul:¬(m.toNat*i.size=0):=by
  have:0<m.toNat*i.size:=Nat.mul_pos (by omega) (by omega)
  omega
 have hsz:¬i.size=0:=by omega
 have h63':¬((9223372036854775807:Int)<max m 0):=by omega
 have hm1:¬m≤0:=by omega
 have hold:(Builtin.firstCells i.size 0 (.slice ad 0 0)).run P w.drew= .ok #[] w.drew:=by
  cases ad with
  |none=>exact run_firstCells_none w.drew i.size 0 0 0
  |some ad=>exact run_firstCells_some w.drew i.size 0 ad 0 0 [] (by simp) (fun j v hj=>by simp at hj)
 simp[Builtin.append_,run_underlying ht,run_underlying htx,sizeOf,typeInfo,zeroValue,hi,hz,asInt,asIntOf,hw,hneg,hbig',hn0,h63,h63',hmul,hcap,hsz,hm1,Question.forced,hold,newRow,grownCap]
theorem op_zeros (hE:EnvOk P E)(h:Rel F c w R σ a){cl:Call}{s x:Lf}{t u:Nat}{i i' j:TI}{k' k:IntKind}{m:Int}(hop:o.op= .call cl)(hb:cl.callee= .builtin .append)(hav:avs σ cl.args.toList=some [(false,[s]),(false,[.val (.int k m)])])(htt:cl.argTypes.toList=[t,u])
 (hi:E.ty t=some i) (hi':E.ty u=some i') (hj:tyE E i=some j) (hby:j.bytes≤1024) (hTl:j.T.len=j.zero.length) (hk:i'.k= .int k') (hd:zerosE E site j.T j.T.dflt s m some=some d)
 (hok:dOk σ d=true) (hF:∀n z,look F.io n=some z→n<1000) (hs:1000≤site):Does P o a w (Post F σ a d):=by
 obtain⟨e,hu,hjo⟩:=tyE_ok hE (t:=t) (j:=j) (by rw[hi];exact hj)
 obtain⟨du,hu',_,hint,_⟩:=(hE.ty u i' hi').und
 have hk':P.underlying u=some (.int k'):=by rw[hu',hint k' hk]
 obtain⟨info,z,hin,hsz,hbyi,h1l,hz,hzc,_,_,hzz⟩:=hjo.info
 obtain⟨sv,xv,hv1,hsv,hxv⟩:∃sv xv,cl.args.toList.map a.eval=[sv,xv]∧V1.rel c w R σ.heap false [s] sv∧V1.rel c w R σ.heap false [.val (.int k m)] xv:=by
  have:=avs_rel h hav
  match hm:cl.args.toList.map a.eval,this with
  |[sv,xv],this=>exact⟨sv,xv,rfl,this.1,this.2.1⟩
 obtain⟨y1,y2,hy,hy1,hy2⟩:=arr_two hv1
 have hsv:=V1.one hsv
 have hxv:xv= .int k m:=V1.one hxv
 subst hxv
 have hat:=toList_two htt
 have hop':∀{v w'},(Builtin.append_ #[t,u] o.type #[sv, .int k m]).run P w= .ok v w'→(execOp a.eval o).run P w= .ok (.value v) w':=by
  intro v w' hr
  simp[execOp,hop,hb,resolve,hy,hy1,hy2,invoke,builtin,hat,hr]
 unfold zerosE at hd
 split at hd
 ·by_cases h0:0≤m
  ·by_cases h1:m<(lim:Int)
   ·rw[decide_eq_true h0,cond_true,decide_eq_true h1,cond_true]at hd
    have hd:=(Option.some.inj hd).symm
    subst hd
    obtain⟨ad,rfl⟩:=hsv
    obtain⟨_,hzz⟩:=hzz (by omega)
    by_cases hm0:m=0
    ·subst hm0
     have hlen0:(List.replicate (0:Int).toNat j.T.dflt)=[]:=rfl
     have hrun:(Builtin.append_ #[t,u] o.type #[.slice ad 0 0, .int k 0]).run P w= .ok (.slice ad 0 0) w:=by
      have hst:∀a:Addr,(storeCells a [] 0).run P w= .ok () w:=fun a=>rfl
      have hw:IntKind.i64.wrap 0=0:=wrap_small (by omega) (by omega)
      cases ad<;>simp[Builtin.append_,run_underlying hu,run_underlying hk',sizeOf,typeInfo,hin,asInt,asIntOf,hw,hst]
     refine Does.run (hop' hrun) ?_
     obtain⟨c',h1,h2,h3,h4⟩:=Rel.addOne (w':=w) (R':=R) h hok hF (by omega:1000≤site*64) none [] (fun _ _ _=>rfl) (Nat.le_refl _) (fun _ _ h=>h) rfl rfl rfl (fun _ h=>h) (fun b hb=> .inl hb) List.nodup_nil (fun b hb=>by cases hb) (fun c' hc hc1 hc2=>by
      simp only[Ent.rel,hc1];exact⟨rfl,hc2⟩)
     refine⟨c',R,h3,_,rfl,fun T' d' xs' hl=> ?_⟩
     rw[h4]at hl
     cases hl
     rw[h1]
     exact⟨ad,rfl⟩
    ·have hrun:=run_append_zeros (w:=w) (ty:=o.type) (k:=k) (ad:=ad) hu hk' hin hz (by omega:0<m) h1 (by omega) (by omega)
     refine Does.run (hop' hrun) ?_
     have hge:=grownCap_ge w m.toNat 0 e
     have hnew:=new_row (xs:=List.replicate m.toNat j.T.dflt) (T:=j.T) (dd:=true) (ds:=[]) (e:=e) (w1:=w.drew) (cap:=grownCap w m.toNat 0 e) (R':=R) (fr:=[])
      (arr:=Builtin.zeroCells z.cells m.toNat++Builtin.zeroCells z.cells (grownCap w m.toNat 0 e-m.toNat)) h hok hF (by omega) rfl rfl rfl rfl (by simpa using hge) (by
       rw[Array.size_append,zeroCells_size,zeroCells_size,hzc,hTl,←Nat.add_mul]
       exact Nat.mul_le_mul_right _ (by omega)) (fun _ h=>h) (fun b hb=> .inl hb) List.nodup_nil (fun b hb=>by cases hb) (by
       refine rowOwn_replicate hzz ?_
       rw[hTl,←hzc]
       refine zeros_at' (by omega) rfl (fun q hq=> ?_)
       rw[Array.getElem?_append_left (by rw[zeroCells_size];exact hq)]
       exact zeroCells_get hq)
     simpa using hnew
   ·rw[decide_eq_true h0,cond_true,decide_eq_false h1,cond_false]at hd
    exact no hd
  ·rw[decide_eq_false h0,cond_false]at hd
   exact no hd
 ·exact no hd
end
theorem setC_fold {b:Nat}:∀(vs:List Value) (o k:Nat) {w:World} {cs:Array Value} {e:Nat},w.heap[b]? =some (.cells cs e (0,0))→
 (w.setCells b (o+k) vs).heap[b]? =some (.cells ((vs.zipIdx k).foldl (fun cs (x:Value×Nat)=>cs.setIfInBounds (o+x.2) x.1) cs) e (0,0))
 |[],_,_,w,cs,e,h=>h
 |v::vs,o,k,w,cs,e,h=>by
  have h1:(w.setCell ⟨b,o+k,none⟩ v).heap[b]? =some (.cells (cs.setIfInBounds (o+k) v) e (0,0)):=by simp[World.setCell,Array.getElem?_modify,h]
  exact setC_fold vs o (k+1) h1
section
variable {P:Program} {E:Env} {F:Fr} {c:Cc} {w:World} {R:Cls} {σ:St} {a:Act} {site:Nat} {o:Oper} {d:D}
theorem store_run {t:Nat}{x y:Operand}{b off n:Nat}{i:TI}(hop:o.op= .store t x y)(hT:TiOk P t i)(hx:a.eval x= .pointer (some ⟨b,off,none⟩))(hsz:(a.eval y).cells.size=i.zero.length)(hb:blk w b n)(hn:off+i.zero.length≤n)(h1:∀u∈(a.eval y).cells.toList,u.oneCell'=true):
 (execOp a.eval o).run P w= .ok .skip (w.setCells b off (a.eval y).cells.toList):=by
 obtain⟨info,z,hin,hs,_⟩:=hT.info
 have hst:=run_storeCells_cells (P:=P) b off (a.eval y).cells.toList 0 w (fun j hj=>hb.cell (by simp at hj;omega)) (fun j hj=>hb.frozen (by simp at hj;omega)) h1
 have hss:¬((a.eval y).cells.size≠info.size):=by omega
 simp[execOp,hop,Instr.storeAt,storeVar,sizeOf,typeInfo,hin,hx,hsz,hs,hst,Instr.sureAddr]
theorem Lf.rel_box {c:Cc}{w w':World}{R:Cls}{H H':Hp}{m:Nat}{old new:List Lf}(hm:look H m=some (.box old))(hm':look H' m=some (.box new))(hH:∀n,n≠m→look H' n=look H n)
 (hk:∀n e,n≠m→look H n=some e→∀b o,c.at_ n=some (b,o)→w'.heap[b]? =w.heap[b]?) (hR:∀b,R b→w'.heap[b]? =w.heap[b]?) (l:Lf) (v:Value) (h:l.rel c w R H v):l.rel c w' R H' v:=by
 cases l with
 |val g=>exact Sg.ro_same hR (fun _ h=>h) h
 |nil0=>exact h
 |nilp=>exact h
 |dead=>trivial
 |rptr p j=>
  obtain⟨b,o,hv,hb,hr⟩:=h
  exact⟨b,o,hv,hb,ETy.ro_same hR (fun _ h=>h) p.T p.x b o (hR b hb) hr⟩
 |ref n=>
  by_cases hn:n=m
  ·subst hn
   intro T d xs hl
   rw[hm']at hl
   cases hl
  ·intro T d xs hl
   rw[hH n hn]at hl
   have h4:=h T d xs hl
   cases hz:c.at_ n with
   |none=>rw[hz]at h4;exact h4
   |some z=>
    rw[hz]at h4
    obtain⟨cp,hv,hle,hb⟩:=h4
    exact⟨cp,hv,hle,hb.same (hk n _ hn hl z.1 z.2 hz)⟩
 |pref n i j=>
  by_cases hn:n=m
  ·subst hn
   intro T d xs hl
   rw[hm']at hl
   cases hl
  ·intro T d xs hl
   rw[hH n hn]at hl
   obtain⟨h4,h5,h6,b,o,h7,h8⟩:=h T d xs hl
   exact⟨h4,h5,h6,b,o,h7,(cell_same (hk n _ hn hl b o h7)).trans h8⟩
 |eptr n i j=>
  by_cases hn:n=m
  ·subst hn
   intro T d xs hl
   rw[hm']at hl
   cases hl
  ·intro T d xs hl
   rw[hH n hn]at hl
   exact h T d xs hl
 |ptr n off=>
  intro ls hl
  by_cases hn:n=m
  ·subst hn
   exact h old hm
  ·rw[hH n hn]at hl
   exact h ls hl
 |fnl f caps=>
  obtain⟨vs,hv,hc⟩:=h
  refine⟨vs,hv,All2.mono_mem (fun n v hn hq ls hl=> ?_) hc⟩
  by_cases hn:n=m
  ·subst hn
   exact hq old hm
  ·rw[hH n hn]at hl
   exact hq ls hl
theorem flatV_mem {g:Sg}:∀{ls:List Lf},flatV ls=true→Lf.val g∈ls→g.t.flat=true
 |[],_,h=>by cases h
 |l::ls,hf,h=>by
  rcases List.mem_cons.1 h with h|h
  ·subst h
   simp only[flatV,Bool.and_eq_true]at hf
   exact hf.1
  ·refine flatV_mem (ls:=ls) ?_ h
   cases l with
   |val g'=>simp only[flatV,Bool.and_eq_true]at hf;exact hf.2
   |_=>exact hf
theorem setLs_out {ls ms:List Lf}{off j:Nat}(h:j<off∨off+ms.length≤j)(hl:off+ms.length≤ls.length):(setLs ls off ms)[j]? =ls[j]? :=by
 unfold setLs
 rcases h with h|h
 ·rw[List.append_assoc,List.getElem?_append_left (by simp;omega),List.getElem?_take_of_lt h]
 ·rw[List.getElem?_append_right (by simp;omega),List.getElem?_drop]
  congr 1
  simp
  omega
theorem at_fp (h:Rel F c w R σ a){n:Nat}{e:Ent}(hn:look σ.heap n=some e){b o:Nat}(hb:c.at_ n=some (b,o)):b∈c.fp n:=by
 have he:=h.hp n _ hn
 cases e with
 |box ls=>obtain⟨b',vs,e,h5,h6,_⟩:=he;rw[hb]at h5;cases h5;rw[h6];simp
 |row T dd xs=>
  cases dd with
  |true=>simp only[Ent.rel,hb]at he;obtain⟨fr,h6,_⟩:=he;rw[h6];simp
  |false=>simp only[Ent.rel,hb]at he;rw[he.1];simp
theorem look_set1 {σ:St}{m:Nat}{old:Ent}(hm:look σ.heap m=some old){e:Ent}{av:AV}{ds:List Nat}(hmd:m∉ds):look (newH σ ⟨av,[],ds,[(m,e)]⟩) m=some e∧∀n,n≠m→look (newH σ ⟨av,[],ds,[(m,e)]⟩) n=if n∈ds then none else look σ.heap n:=by
 constructor
 ·rw[look_newH]
  have h0:look ([]:Hp) m=none:=rfl
  simp only[h0,hm,hmd,if_false]
  simp[look_cons]
 ·intro n hn
  rw[look_newH]
  have h1:look [(m,e)] n=none:=by rw[look_cons,if_neg hn];rfl
  have h0:look ([]:Hp) n=none:=rfl
  simp only[h0,h1]
  by_cases hd:n∈ds
  ·simp[hd]
  ·simp only[hd,if_false]
   cases look σ.heap n<;>simp[h1]
theorem store_box (h:Rel F c w R σ a){m off:Nat}{old ls:List Lf}{vs:List Value}(hm:look σ.heap m=some (.box old))(hl:off+ls.length≤old.length)(hr:All2 (Lf.rel c w R σ.heap) ls vs){b:Nat}(hb:c.at_ m=some (b,0))(hfl:look F.io m≠none→flatV ((old.drop off).take ls.length)=true):
 Post F σ a ⟨.undef,[],[],[(m, .box (setLs old off ls))]⟩ Go.undef (w.setCells b off vs):=by
 obtain⟨b',cs,e,h1,h2,h3,h4⟩:=h.hp m _ hm
 rw[hb]at h1
 cases h1
 obtain⟨k1,k2⟩:=look_set1 hm (e:= .box (setLs old off ls)) (av:= .undef) (ds:=[]) (by simp)
 have k2:∀n,n≠m→look (newH σ ⟨.undef,[],[],[(m, .box (setLs old off ls))]⟩) n=look σ.heap n:=fun n hn=>by rw[k2 n hn];simp
 obtain⟨r1,r2,r3⟩:=setC_rest (b:=b) vs off w
 have hbm:b∈c.fp m:=by rw[h2];simp
 have hoth:∀k,k≠b→(w.setCells b off vs).heap[k]? =w.heap[k]? :=fun k hk=>setC_other vs _ hk
 have hRs:∀k,R k→(w.setCells b off vs).heap[k]? =w.heap[k]? :=fun k hk=>hoth k (fun e=>(h.nr m _ hm b hbm).1 (e▸hk))
 have hleaf:∀(l:Lf) (v:Value),l.rel c w R σ.heap v→l.rel c (w.setCells b off vs) R (newH σ ⟨.undef,[],[],[(m, .box (setLs old off ls))]⟩) v:=
  Lf.rel_box hm k1 k2 (fun n e hn hl b' o' hb'=>hoth b' (fun e'=>h.dj n _ m _ hn hl hm b' (at_fp h hl hb') (e'▸hbm))) hRs
 have hset:=All2.set (off:=off) h4 hr hl
 refine⟨c,R,?_,?_⟩
 ·refine Rel.step (d:=⟨.undef,[],[],[(m, .box (setLs old off ls))]⟩) h rfl (by simp) (fun _ _ _=>⟨rfl,rfl⟩) ?_ (fun _ h=>h) ?_ ?_ ?_ (fun n hn=>absurd rfl hn) ?_ (by rw[setC_size];omega) (fun _ _ h=>h.setC') r1 r2 r3 ?_
  ·intro k hk hd
   refine hoth k (fun e=>hd m _ hm (.inr (by simp[look_cons])) (e▸hbm))
  ·intro k hk
   exact⟨by rw[setC_size];exact h.rl k hk, .inl hk⟩
  ·intro n e' he' hn
   have hn':n=m:=by
    rcases hn with hn|hn
    ·exact absurd rfl hn
    ·exact look_one hn
   subst hn'
   rw[k1]at he'
   cases he'
   refine⟨⟨b,_,e,hb,h2,by simpa using setC_fold vs off 0 h3,?_⟩,h.nd n _ hm,fun k hk=>⟨(h.nr n _ hm k hk).1, .inr ⟨n,_,hm, .inr (by simp[look_cons]),hk⟩⟩⟩
   exact hset.mono hleaf
  ·intro n e1 m' e2 hne _ _ hn1 hn2
   have:n=m:=by
    rcases hn1 with hn|hn
    ·exact absurd rfl hn
    ·exact look_one hn
   have:m'=m:=by
    rcases hn2 with hn|hn
    ·exact absurd rfl hn
    ·exact look_one hn
   omega
  ·intro l v _ _ hv
   exact hleaf l v hv
  ·intro n e' new hio he hs
   have hn:n=m:=look_one (by rw[hs];simp)
   subst hn
   rw[hm]at he
   cases he
   rw[look_cons,if_pos rfl]at hs
   cases hs
   refine⟨old,rfl,rfl,fun j g hj hg=> ?_⟩
   have hout:j<off∨off+ls.length≤j:=by
    by_cases h1:j<off
    ·exact .inl h1
    ·by_cases h2:off+ls.length≤j
     ·exact .inr h2
     ·exfalso
      have hmem:Lf.val g∈(old.drop off).take ls.length:=by
       refine List.mem_iff_getElem?.2 ⟨j-off,?_⟩
       rw[List.getElem?_take_of_lt (by omega),List.getElem?_drop,show off+(j-off)=j by omega]
       exact hj
      rw[flatV_mem (hfl hio) hmem]at hg
      cases hg
   refine⟨?_,fun b' hb'=> ?_⟩
   ·rw[setLs_out hout hl]
    exact hj
   ·rw[hb]at hb'
    cases hb'
    exact World.cell?_setCells_out b vs off w ⟨b,j,none⟩ (fun _ _=>by
     show j<off∨off+vs.length≤j
     rw[←hr.length]
     exact hout)
 ·exact rfl
end
theorem ownVals_split {w:World}:∀{gs hs:List Sg} {vs:List Value} {f:List Nat},ownVals w (gs++hs) vs f→∃v1 v2 f1 f2,vs=v1++v2∧f=f1++f2∧ownVals w gs v1 f1∧ownVals w hs v2 f2
 |[],hs,vs,f,h=>⟨[],vs,[],f,rfl,rfl,rfl,h⟩
 |g::gs,hs,v::vs,f,h=>by
  obtain⟨a,b,rfl,h1,h2⟩:=h
  obtain⟨v1,v2,f1,f2,rfl,rfl,h3,h4⟩:=ownVals_split h2
  exact⟨v::v1,v2,a++f1,f2,rfl,by simp,⟨a,f1,rfl,h1,h3⟩,h4⟩
 |_::_,_,[],_,h=>h.elim
theorem contV_split {w:World}{R:Cls}{gs hs:List Sg}{vs:List Value}{f:List Nat}{dd:Bool}(h:contV w R (gs++hs) vs f dd):∃v1 v2 f1 f2,vs=v1++v2∧f=f1++f2∧contV w R gs v1 f1 dd∧contV w R hs v2 f2 dd:=by
 cases dd with
 |true=>exact ownVals_split h
 |false=>
  obtain⟨v1,v2,h1,h2,h3⟩:=h.2.split
  exact⟨v1,v2,[],[],h1,h.1,⟨rfl,h2⟩,rfl,h3⟩
theorem take_drop_set {α:Type}{xs:List α}{i:Nat}(hi:i<xs.length)(x:α):xs.set i x=xs.take i++x::xs.drop (i+1):=List.set_eq_take_append_cons_drop.trans (by rw[if_pos hi])
theorem take_drop_get {α:Type}{xs:List α}{i:Nat}(hi:i<xs.length):xs=xs.take i++xs[i]::xs.drop (i+1):=by
 rw[List.getElem_cons_drop,List.take_append_drop]
section
variable {P:Program} {E:Env} {F:Fr} {c:Cc} {w:World} {R:Cls} {σ:St} {a:Act} {site:Nat} {o:Oper} {d:D}
theorem row_split (h:Rel F c w R σ a){m i:Nat}{T:ETy}{dd:Bool}{xs:List T.den}(hm:look σ.heap m=some (.row T dd xs))(hi:i<xs.length){b o:Nat}(hb:c.at_ m=some (b,o)):
 ∃v1 v2 v3 f1 f2 f3,c.fp m=b::(f1++(f2++f3))∧blk w b (o+xs.length*T.len)∧cellsAt w b o (v1++(v2++v3))∧contV w R (flatG T (xs.take i)) v1 f1 dd∧contV w R (T.sgs xs[i]) v2 f2 dd∧contV w R (flatG T (xs.drop (i+1))) v3 f3 dd:=by
 have he:=h.hp m _ hm
 have key:∃fr,c.fp m=b::fr∧blk w b (o+xs.length*T.len)∧rowCont w R T b o xs fr dd:=by
  cases dd with
  |true=>
   simp only[Ent.rel,hb]at he
   obtain⟨fr,h1,h2,h3⟩:=he
   exact⟨fr,h1,h2,h3⟩
  |false=>
   simp only[Ent.rel,hb]at he
   exact⟨[],he.1,he.2.1,rfl,he.2.2⟩
 obtain⟨fr,h1,h2,h3⟩:=key
 obtain⟨vs,h4,h5⟩:=rowCont_vals h3
 have hx:flatG T xs=flatG T (xs.take i)++(T.sgs xs[i]++flatG T (xs.drop (i+1))):=by
  have:=congrArg (flatG T) (take_drop_get hi)
  rw[flatG_append]at this
  exact this
 rw[hx]at h5
 obtain⟨v1,v2,f1,f2,rfl,rfl,h6,h7⟩:=contV_split h5
 obtain⟨v3,v4,f3,f4,rfl,rfl,h8,h9⟩:=contV_split h7
 exact⟨v1,v3,v4,f1,f3,f4,h1,h2,h4,h6,h8,h9⟩
theorem Lf.rel_row {c c':Cc}{w w':World}{R R':Cls}{H H':Hp}{m:Nat}{T:ETy}{dd:Bool}{xs ys:List T.den}(hm:look H m=some (.row T dd xs))(hm':look H' m=some (.row T dd ys))(hlen:ys.length=xs.length)(hat:c'.at_ m=c.at_ m)
 (hH:∀n e,n≠m→look H' n=some e→look H n=some e∧c'.at_ n=c.at_ n) (hk:∀n e,n≠m→look H n=some e→∀b o,c.at_ n=some (b,o)→w'.heap[b]? =w.heap[b]?) (hbk:∀b n,blk w b n→blk w' b n) (hR:∀b,R b→w'.heap[b]? =w.heap[b]?) (hR':∀b,R b→R' b)
 (l:Lf) (v:Value) (hp:∀i j,l= .pref m i j→∀b o,c.at_ m=some (b,o)→w'.cell? ⟨b,o+i*T.len+j,none⟩=w.cell? ⟨b,o+i*T.len+j,none⟩) (h:l.rel c w R H v):l.rel c' w' R' H' v:=by
 cases l with
 |val g=>exact Sg.ro_same hR hR' h
 |nil0=>exact h
 |nilp=>exact h
 |dead=>trivial
 |rptr p j=>
  obtain⟨b,o,hv,hb,hr⟩:=h
  exact⟨b,o,hv,hR' b hb,ETy.ro_same hR hR' p.T p.x b o (hR b hb) hr⟩
 |ref n=>
  intro T2 d2 xs2 hl
  by_cases hn:n=m
  ·subst hn
   rw[hm']at hl
   cases hl
   have h4:=h _ _ _ hm
   rw[hat,hlen]
   cases hz:c.at_ n with
   |none=>rw[hz]at h4;exact h4
   |some z=>
    rw[hz]at h4
    obtain⟨cp,hv,hle,hb⟩:=h4
    exact⟨cp,hv,hle,hbk _ _ hb⟩
  ·obtain⟨hl,ha⟩:=hH n _ hn hl
   have h4:=h _ _ _ hl
   rw[ha]
   cases hz:c.at_ n with
   |none=>rw[hz]at h4;exact h4
   |some z=>
    rw[hz]at h4
    obtain⟨cp,hv,hle,hb⟩:=h4
    exact⟨cp,hv,hle,hb.same (hk n _ hn hl z.1 z.2 hz)⟩
 |pref n i j=>
  intro T2 d2 xs2 hl
  by_cases hn:n=m
  ·subst hn
   rw[hm']at hl
   cases hl
   obtain⟨h4,h5,h6,b,o,h7,h8⟩:=h _ _ _ hm
   exact⟨h4,by omega,h6,b,o,hat.trans h7,(hp i j rfl b o h7).trans h8⟩
  ·obtain⟨hl,ha⟩:=hH n _ hn hl
   obtain⟨h4,h5,h6,b,o,h7,h8⟩:=h _ _ _ hl
   exact⟨h4,h5,h6,b,o,ha.trans h7,(cell_same (hk n _ hn hl b o h7)).trans h8⟩
 |eptr n i j=>
  intro T2 d2 xs2 hl
  by_cases hn:n=m
  ·subst hn
   rw[hm']at hl
   cases hl
   obtain⟨h5,b,o,h7,h8⟩:=h _ _ _ hm
   exact⟨by omega,b,o,hat.trans h7,h8⟩
  ·obtain⟨hl,ha⟩:=hH n _ hn hl
   obtain⟨h5,b,o,h7,h8⟩:=h _ _ _ hl
   exact⟨h5,b,o,ha.trans h7,h8⟩
 |ptr n off=>
  intro ls hl
  by_cases hn:n=m
  ·subst hn
   rw[hm']at hl
   cases hl
  ·obtain⟨hl,ha⟩:=hH n _ hn hl
   obtain⟨b,h1,h2⟩:=h ls hl
   exact⟨b,ha.trans h1,h2⟩
 |fnl f caps=>
  obtain⟨vs,hv,hc⟩:=h
  refine⟨vs,hv,All2.mono_mem (fun n v _ hq ls hl=> ?_) hc⟩
  by_cases hn:n=m
  ·subst hn
   rw[hm']at hl
   cases hl
  ·obtain⟨hl,ha⟩:=hH n _ hn hl
   obtain⟨b,h1,h2⟩:=hq ls hl
   exact⟨b,ha.trans h1,h2⟩
theorem store_row (h:Rel F c w R σ a){m i:Nat}{T:ETy}{dd:Bool}{xs:List T.den}{x:T.den}{ds:List Nat}(hm:look σ.heap m=some (.row T dd xs))(hi:i<xs.length)(hmd:m∉ds){b o lo:Nat}(hb:c.at_ m=some (b,o)){us:List Value}
 (hlo:o+i*T.len≤lo) (hhi:lo+us.length≤o+i*T.len+T.len) {v1 v2 v3 u2:List Value} {f1 f2 f3 g2:List Nat} {R':Cls}
 (hfp:c.fp m=b::(f1++(f2++f3))) (hbk:blk w b (o+xs.length*T.len)) (hat:cellsAt w b o (v1++(v2++v3))) (hc1:contV w R (flatG T (xs.take i)) v1 f1 dd) (hc2:contV w R (T.sgs xs[i]) v2 f2 dd) (hc3:contV w R (flatG T (xs.drop (i+1))) v3 f3 dd)
 (hR:∀k,R k→R' k) (hR':∀k,R' k→R k∨∃n e,look σ.heap n=some e∧n∈ds∧k∈c.fp n)
 (hg:g2.Nodup) (hg2:∀k∈g2,¬R' k∧(k∈f2∨∃n e,look σ.heap n=some e∧n∈ds∧k∈c.fp n))
 (hu:contV w R' (T.sgs x) u2 g2 dd) (hu2:cellsAt (w.setCells b lo us) b (o+i*T.len) u2)
 (hpf:∀l,σ.has l→∀i' j',l= .pref m i' j'→i'<xs.length→j'<T.len→(o+i'*T.len+j'<lo∨lo+us.length≤o+i'*T.len+j')):
 Post F σ a ⟨.undef,[],ds,[(m, .row T dd (xs.set i x))]⟩ Go.undef (w.setCells b lo us):=by
 obtain⟨k1,k2⟩:=look_set1 hm (e:= .row T dd (xs.set i x)) (av:= .undef) (ds:=ds) hmd
 obtain⟨r1,r2,r3⟩:=setC_rest (b:=b) us lo w
 have hbm:b∈c.fp m:=by rw[hfp];simp
 have hoth:∀k,k≠b→(w.setCells b lo us).heap[k]? =w.heap[k]? :=fun k hk=>setC_other us _ hk
 have hnd:=h.nd m _ hm
 rw[hfp,List.nodup_cons]at hnd
 have hRb:¬R' b:=by
  intro hr
  rcases hR' b hr with hr|⟨n,e,h1,h2,h3⟩
  ·exact(h.nr m _ hm b hbm).1 hr
  ·exact h.dj m _ n _ (fun e=>hmd (e▸h2)) hm h1 b hbm h3
 have hRs:∀k,R' k→(w.setCells b lo us).heap[k]? =w.heap[k]? :=fun k hk=>hoth k (fun e=>hRb (e▸hk))
 have hm13:∀k,k∈f1∨k∈f2∨k∈f3→k∈c.fp m:=by
  intro k hk
  rw[hfp]
  rcases hk with hk|hk|hk<;>simp[hk]
 have hb13:∀k,k∈f1∨k∈f2∨k∈f3→k≠b:=by
  rintro k hk rfl
  exact hnd.1 (by rcases hk with hk|hk|hk<;>simp[hk])
 have hgb:∀k∈g2,k≠b:=by
  rintro k hk rfl
  rcases(hg2 k hk).2 with h1|⟨n,e,h1,h2,h3⟩
  ·exact hb13 k (.inr (.inl h1)) rfl
  ·exact h.dj m _ n _ (fun e=>hmd (e▸h2)) hm h1 k hbm h3
 have hR13:∀k,k∈f1∨k∈f2∨k∈f3→¬R' k:=by
  intro k hk hr
  rcases hR' k hr with hr|⟨n,e,h1,h2,h3⟩
  ·exact(h.nr m _ hm k (hm13 k hk)).1 hr
  ·exact h.dj m _ n _ (fun e=>hmd (e▸h2)) hm h1 k (hm13 k hk) h3
 have hl1:v1.length=i*T.len:=by rw[←contV_length hc1,flatG_length,List.length_take,Nat.min_eq_left (by omega)]
 have hl2:v2.length=T.len:=by rw[←contV_length hc2,ETy.sgs_length]
 have hl2':u2.length=T.len:=by rw[←contV_length hu,ETy.sgs_length]
 obtain⟨ha1,ha23⟩:=cellsAt_append.1 hat
 obtain⟨ha2,ha3⟩:=cellsAt_append.1 ha23
 have hrow:rowCont (w.setCells b lo us) R' T b o (xs.set i x) (f1++(g2++f3)) dd:=by
  refine vals_rowCont (vs:=v1++(u2++v3)) (cellsAt_append.2 ⟨cells_setC_out ha1 (.inl (by omega)),cellsAt_append.2 ⟨by rw[hl1];exact hu2,?_⟩⟩) ?_
  ·rw[hl1,hl2']at*
   rw[hl2]at ha3
   exact cells_setC_out ha3 (.inr (by omega))
  ·have e1:flatG T (xs.set i x)=flatG T (xs.take i)++(T.sgs x++flatG T (xs.drop (i+1))):=by rw[take_drop_set hi,flatG_append];rfl
   rw[e1]
   refine contV_append (contV_same (fun k hk=>hoth k (hb13 k (.inl hk))) (fun k hk=>hRs k (hR k hk)) hR hc1) (contV_append (contV_same (fun k hk=>hoth k (hgb k hk)) hRs (fun _ h=>h) hu) (contV_same (fun k hk=>hoth k (hb13 k (.inr (.inr hk)))) (fun k hk=>hRs k (hR k hk)) hR hc3))
 have hndf:(f1++(g2++f3)).Nodup:=by
  have h2:=hnd.2
  rw[List.nodup_append,List.nodup_append]at h2
  rw[List.nodup_append,List.nodup_append]
  have hgm:∀k∈g2,k∈f1∨k∈f3→False:=by
   intro k hk hk'
   rcases(hg2 k hk).2 with h3|⟨n,e,h3,h4,h5⟩
   ·rcases hk' with hk'|hk'
    ·exact h2.2.2 k hk' k (by simp[h3]) rfl
    ·exact h2.2.1.2.2 k h3 k hk' rfl
   ·exact h.dj m _ n _ (fun e=>hmd (e▸h4)) hm h3 k (hm13 k (by rcases hk' with hk'|hk'<;>simp[hk'])) h5
  refine⟨h2.1,⟨hg,h2.2.1.2.1,fun k hk k' hk' e=>hgm k hk (.inr (e▸hk'))⟩,fun k hk k' hk' e=> ?_⟩
  subst e
  rcases List.mem_append.1 hk' with hk'|hk'
  ·exact hgm k hk' (.inl hk)
  ·exact h2.2.2 k hk k (by simp[hk']) rfl
 have hbk':blk (w.setCells b lo us) b (o+(xs.set i x).length*T.len):=by rw[List.length_set];exact hbk.setC
 have hside:∀n,n≠m→look (newH σ ⟨.undef,[],ds,[(m, .row T dd (xs.set i x))]⟩) n=if n∈ds then none else look σ.heap n:=k2
 have hkk:∀n e,n≠m→look (newH σ ⟨.undef,[],ds,[(m, .row T dd (xs.set i x))]⟩) n=some e→look σ.heap n=some e:=by
  intro n e hn he
  rw[hside n hn]at he
  by_cases hd:n∈ds
  ·simp[hd]at he
  ·simpa [hd]using he
 have hblks:∀b' n,blk w b' n→blk (w.setCells b lo us) b' n:=by
  intro b' n hb'
  by_cases e:b'=b
  ·subst e;exact hb'.setC
  ·exact hb'.same (hoth b' e)
 have hleaf:∀(l:Lf) (v:Value),(σ.has l∨F.has l)→l.rel c w R σ.heap v→l.rel ⟨c.at_,fun n=>if n=m then b::(f1++(g2++f3))else c.fp n⟩ (w.setCells b lo us) R' (newH σ ⟨.undef,[],ds,[(m, .row T dd (xs.set i x))]⟩) v:=by
  intro l v hl hv
  refine Lf.rel_row (c':=⟨c.at_,fun n=>if n=m then b::(f1++(g2++f3))else c.fp n⟩) hm k1 (by simp) rfl (fun n e hn he=>⟨hkk n e hn he,rfl⟩) (fun n e hn hle b' o' hb'=>hoth b' (fun e'=>h.dj n _ m _ hn hle hm b' (at_fp h hle hb') (e'▸hbm))) hblks (fun k hk=>hRs k (hR k hk)) hR l v (fun i' j' e b' o' hb'=> ?_) hv
  subst e
  rw[hb]at hb'
  cases hb'
  obtain⟨_,h5,h6,_⟩:=hv _ _ _ hm
  have hl:σ.has (.pref m i' j'):=hl.resolve_right (by rintro⟨p,z,_,e|e⟩<;>cases e)
  rw[World.cell?_setCells_out b us lo w _ (fun _ _=>hpf _ hl i' j' rfl h5 h6)]
 refine⟨⟨c.at_,fun n=>if n=m then b::(f1++(g2++f3))else c.fp n⟩,R',?_,rfl⟩
 refine Rel.step (d:=⟨.undef,[],ds,[(m, .row T dd (xs.set i x))]⟩) h rfl (fun n e he hn=> ?_) (fun n _ hn=>⟨rfl,?_⟩) ?_ hR ?_ ?_ ?_ (fun n hn=>absurd rfl hn) ?_ (by rw[setC_size];omega) (fun _ _ h=>h.setC') r1 r2 r3 (fun n e new _ _ hs=>by
  have hn:n=m:=look_one (by rw[hs];simp)
  subst hn
  rw[look_cons,if_pos rfl]at hs
  cases hs)
 ·have:n=m:=look_one (by rw[he];simp)
  subst this
  exact hmd hn
 ·have:n≠m:=by rintro rfl;simp[look_cons]at hn
  simp[this]
 ·intro k hk hd
  refine hoth k (fun e=>hd m _ hm (.inr (by simp[look_cons])) (e▸hbm))
 ·intro k hk
  refine⟨?_,?_⟩
  ·rw[setC_size]
   rcases hR' k hk with hk|⟨n,e,h1,_,h3⟩
   ·exact h.rl k hk
   ·exact Ent.lt (h.hp n e h1) k h3
  ·rcases hR' k hk with hk|⟨n,e,h1,h2,h3⟩
   ·exact .inl hk
   ·exact .inr (.inr ⟨n,e,h1, .inl h2,h3⟩)
 ·intro n e' he' hn
  have hn':n=m:=by
   rcases hn with hn|hn
   ·exact absurd rfl hn
   ·exact look_one hn
  subst hn'
  rw[k1]at he'
  cases he'
  refine⟨?_,?_,?_⟩
  ·cases dd with
   |true=>
    simp only[Ent.rel,hb,if_true]
    exact⟨_,rfl,hbk',hrow⟩
   |false=>
    simp only[Ent.rel,hb,if_true]
    obtain⟨h5,h6⟩:=hrow
    rw[h5]
    exact⟨rfl,hbk',h6⟩
  ·simp only[if_true]
   refine List.nodup_cons.2 ⟨fun hk=> ?_,hndf⟩
   rcases List.mem_append.1 hk with hk|hk
   ·exact hb13 b (.inl hk) rfl
   ·rcases List.mem_append.1 hk with hk|hk
    ·exact hgb b hk rfl
    ·exact hb13 b (.inr (.inr hk)) rfl
  ·intro k hk
   simp only[if_true]at hk
   have old:k∈c.fp n→w.heap.size≤k∨∃m_1 e,look σ.heap m_1=some e∧(m_1∈ds∨look [(n,Ent.row T dd (xs.set i x))] m_1≠none)∧k∈c.fp m_1:=fun hk=> .inr ⟨n,_,hm, .inr (by simp[look_cons]),hk⟩
   rcases List.mem_cons.1 hk with rfl|hk
   ·exact⟨hRb,old hbm⟩
   ·rcases List.mem_append.1 hk with hk|hk
    ·exact⟨hR13 k (.inl hk),old (hm13 k (.inl hk))⟩
    ·rcases List.mem_append.1 hk with hk|hk
     ·refine⟨(hg2 k hk).1,?_⟩
      rcases(hg2 k hk).2 with h5|⟨n',e,h5,h6,h7⟩
      ·exact old (hm13 k (.inr (.inl h5)))
      ·exact .inr ⟨n',e,h5, .inl h6,h7⟩
     ·exact⟨hR13 k (.inr (.inr hk)),old (hm13 k (.inr (.inr hk)))⟩
 ·intro n e1 m' e2 hne _ _ hn1 hn2
  have:n=m:=by
   rcases hn1 with hn|hn
   ·exact absurd rfl hn
   ·exact look_one hn
  have:m'=m:=by
   rcases hn2 with hn|hn
   ·exact absurd rfl hn
   ·exact look_one hn
  omega
 ·intro l v hl _ hv
  exact hleaf l v hl hv
theorem setF_sgs :∀(T:ETy) (j:Nat) (g:Sg) (f:T.den→T.den),setF T j g=some f→∀x:T.den,T.sgs (f x)=(T.sgs x).set j g∧∃g0,(T.sgs x)[j]? =some g0∧g0.t=g.t
 | .nil,j,g,f,h,x=>by
   unfold setF at h
   exact no h
 | .cons t .nil,0,g,f,h,x=>by
   have h:(t.get g).map (fun y _=>y)=some f:=h
   obtain⟨y,hy,rfl⟩:=Option.map_eq_some_iff.1 h
   have:=LTy.get_sg hy
   refine⟨?_,t.sg x,rfl,?_⟩
   ·show [t.sg y]=_
    rw[this]
    rfl
   ·rw[←this]
    cases t<;>rfl
 | .cons t .nil,j+1,g,f,h,x=>by
   have h:(none:Option (t.den→t.den))=some f:=h
   exact no h
 | .cons t (.cons u ts),0,g,f,h,x=>by
   have h:(t.get g).map (fun y (x:t.den×(ETy.cons u ts).den)=>(y,x.2))=some f:=h
   obtain⟨y,hy,rfl⟩:=Option.map_eq_some_iff.1 h
   have:=LTy.get_sg hy
   refine⟨?_,t.sg x.1,rfl,?_⟩
   ·show t.sg y::_=_
    rw[this]
    rfl
   ·rw[←this]
    cases t<;>rfl
 | .cons t (.cons u ts),j+1,g,f,h,x=>by
   have h:(setF (.cons u ts) j g).map (fun f (x:t.den×(ETy.cons u ts).den)=>(x.1,f x.2))=some f:=h
   obtain⟨f',hf,rfl⟩:=Option.map_eq_some_iff.1 h
   obtain⟨h1,g0,h2,h3⟩:=setF_sgs (.cons u ts) j g f' hf x.2
   refine⟨?_,g0,by simpa [ETy.sgs]using h2,h3⟩
   show t.sg x.1::(ETy.cons u ts).sgs (f' x.2)=_
   rw[h1]
   rfl
theorem setSg_sgs (T:ETy)(x:T.den)(j:Nat)(g:Sg)(y:T.den)(h:setSg T x j g=some y):T.sgs y=(T.sgs x).set j g∧∃g0,(T.sgs x)[j]? =some g0∧g0.t=g.t:=by
 obtain⟨f,hf,rfl⟩:=Option.map_eq_some_iff.1 h
 exact setF_sgs T j g f hf x
theorem ownVals_set {w:World}:∀{gs:List Sg} {vs:List Value} {f:List Nat} {j:Nat} {g0 g:Sg} {v:Value},ownVals w gs vs f→gs[j]? =some g0→g0.t.flat=true→g.own w v []→ownVals w (gs.set j g) (vs.set j v) f
 |x::gs,u::vs,f,0,g0,g,v,h,hg,hf,hv=>by
  obtain⟨f1,f2,rfl,h1,h2⟩:=h
  simp at hg
  subst hg
  have:f1=[]:=by cases x<;>simp[Sg.t,LTy.flat]at hf<;>exact h1.2
  subst this
  exact⟨[],f2,rfl,hv,h2⟩
 |x::gs,u::vs,f,j+1,g0,g,v,h,hg,hf,hv=>by
  obtain⟨f1,f2,rfl,h1,h2⟩:=h
  exact⟨f1,f2,rfl,h1,ownVals_set h2 (by simpa using hg) hf hv⟩
 |[],[],_,j,_,_,_,_,hg,_,_=>by simp at hg
 |[],_::_,_,_,_,_,_,h,_,_,_=>h.elim
 |_::_,[],_,_,_,_,_,h,_,_,_=>h.elim
theorem All2.setAt {α:Type}{Q:α→Value→Prop}:∀{gs:List α} {vs:List Value} {j:Nat} {g:α} {v:Value},All2 Q gs vs→Q g v→All2 Q (gs.set j g) (vs.set j v)
 |[],[],_,_,_,_,_=>trivial
 |_::_,_::_,0,_,_,h,hq=>⟨hq,h.2⟩
 |_::_,_::_,j+1,_,_,h,hq=>⟨h.1,All2.setAt h.2 hq⟩
 |[],_::_,_,_,_,h,_=>h.elim
 |_::_,[],_,_,_,h,_=>h.elim
theorem contV_set {w:World}{R:Cls}{gs:List Sg}{vs:List Value}{f:List Nat}{dd:Bool}{j:Nat}{g0 g:Sg}{v:Value}(h:contV w R gs vs f dd)(hg:gs[j]? =some g0)(hf:g0.t.flat=true)(hv:g.own w v []):contV w R (gs.set j g) (vs.set j v) f dd:=by
 cases dd with
 |true=>exact ownVals_set h hg hf hv
 |false=>exact⟨h.1,All2.setAt h.2 (Sg.own_ro (fun b hb=>by cases hb) hv)⟩
theorem lsPref_mem {n:Nat}{q:Option Nat}:∀{ls:List Lf},lsPref n q ls=false→∀i j,Lf.pref n i j∈ls→∃q',q=some q'∧j≠q'
 |l::ls,h,i,j,hm=>by
  have tail:lsPref n q ls=false→Lf.pref n i j∈ls→∃q',q=some q'∧j≠q':=fun h hm=>lsPref_mem h i j hm
  rcases List.mem_cons.1 hm with e|hm'
  ·subst e
   simp only[lsPref,Bool.or_eq_false_iff]at h
   have h1:=h.1
   simp only[Nat.beq_refl,Bool.true_and]at h1
   cases q with
   |none=>cases h1
   |some q=>exact⟨q,rfl,fun e=>by subst e;simp at h1⟩
  ·cases l with
   |pref m i' j'=>simp only[lsPref,Bool.or_eq_false_iff]at h;exact tail h.2 hm'
   |_=>exact tail h hm'
theorem vsPref_mem {n:Nat}{q:Option Nat}:∀{vs:List (Bool×List Lf)},vsPref n q vs=false→∀i j,Lf.pref n i j∈flatA vs→∃q',q=some q'∧j≠q'
 |(g,ls)::vs,h,i,j,hm=>by
  simp only[vsPref,Bool.or_eq_false_iff]at h
  rcases List.mem_append.1 hm with hm|hm
  ·exact lsPref_mem h.1 i j hm
  ·exact vsPref_mem h.2 i j hm
theorem tmpsPref_look {n:Nat}{q:Option Nat}:∀{ts:List (Nat×AV)},tmpsPref n q ts=false→∀t av,look ts t=some av→∀i j,Lf.pref n i j∈av.leaves→∃q',q=some q'∧j≠q'
 |[],_,t,av,h=>by simp[look]at h
 |(k,a)::ts,h,t,av,hl=>by
  have hh:(∀i j,Lf.pref n i j∈a.leaves→∃q',q=some q'∧j≠q')∧tmpsPref n q ts=false:=by
   cases a with
   |v g ls=>simp only[tmpsPref,Bool.or_eq_false_iff]at h;exact⟨fun i j=>lsPref_mem h.1 i j,h.2⟩
   |tup vs=>simp only[tmpsPref,Bool.or_eq_false_iff]at h;exact⟨fun i j=>vsPref_mem h.1 i j,h.2⟩
   |undef=>exact⟨fun i j hm=>(by cases hm),h⟩
   |anyb=>exact⟨fun i j hm=>(by cases hm),h⟩
  rw[look_cons]at hl
  by_cases e:t=k
  ·simp[e]at hl;subst hl;exact hh.1
  ·simp[e]at hl;exact tmpsPref_look hh.2 t av hl
theorem heapPref_look {n:Nat}{q:Option Nat}:∀{H:Hp},heapPref n q H=false→∀m ls,look H m=some (.box ls)→∀i j,Lf.pref n i j∈ls→∃q',q=some q'∧j≠q'
 |[],_,t,av,h=>by simp[look]at h
 |(k,e)::H,h,m,ls,hl=>by
  have hh:(∀ls,e= .box ls→∀i j,Lf.pref n i j∈ls→∃q',q=some q'∧j≠q')∧heapPref n q H=false:=by
   cases e with
   |box ls=>simp only[heapPref,Bool.or_eq_false_iff]at h;exact⟨fun ls' e i j=>by cases e;exact lsPref_mem h.1 i j,h.2⟩
   |row T d xs=>exact⟨fun ls' e=>(by cases e),h⟩
  rw[look_cons]at hl
  by_cases e':m=k
  ·simp[e']at hl;exact hh.1 ls hl
  ·simp[e']at hl;exact heapPref_look hh.2 m ls hl
theorem prefFree_spec {n:Nat}{q:Option Nat}(h:prefFree n q σ=true){i j:Nat}(hl:σ.has (.pref n i j)):∃q',q=some q'∧j≠q':=by
 simp only[prefFree,Bool.and_eq_true,Bool.not_eq_true']at h
 rcases hl with⟨t,av,ht,hm⟩|⟨m,ls,hm,hl⟩
 ·exact tmpsPref_look h.1 t av ht i j hm
 ·exact heapPref_look h.2 m ls hm i j hl
end
section
variable {P:Program} {E:Env} {F:Fr} {c:Cc} {w:World} {R:Cls} {σ:St} {a:Act} {site:Nat} {o:Oper} {d:D}
theorem frzRs_ownV (h:Rel F c w R σ a):∀(T:ETy) (ls:List Lf) (x:T.den) (vs:List Value),frzRs σ.heap T ls=some x→ownLs σ.heap ls=true→All2 (Lf.rel c w R σ.heap) ls vs→ownVals w (T.sgs x) vs (lsFp c ls)
 | .nil,ls,x,vs,hf,ho,hr=>by
   have:=frzRs_nil hf
   subst this
   cases vs with
   |nil=>exact rfl
   |cons _ _=>exact hr.elim
 | .cons t .nil,ls,x,vs,hf,ho,hr=>by
   obtain⟨l,rfl,hf⟩:=frzRs_one hf
   simp only[ownLs,Bool.and_true]at ho
   obtain⟨v,rfl,hv⟩:=one_of hr
   exact⟨l.fp c,[],by simp[lsFp],frzR_own h hf ho hv,rfl⟩
 | .cons t (.cons u ts),ls,x,vs,hf,ho,hr=>by
   obtain⟨l,r,rfl,hy,hz⟩:=frzRs_cons hf
   cases vs with
   |nil=>exact hr.elim
   |cons v vs=>
    simp only[ownLs,Bool.and_eq_true]at ho
    exact⟨l.fp c,lsFp c r,rfl,frzR_own h hy ho.1 hr.1,frzRs_ownV h (.cons u ts) r x.2 vs hz ho.2 hr.2⟩
theorem cellsAt_set {w:World}{b o j:Nat}{vs:List Value}{v:Value}(hj:j<vs.length)(h:cellsAt w b o vs)(hb:blk w b (o+vs.length)):cellsAt (w.setCells b (o+j) [v]) b o (vs.set j v):=by
 intro q u hq
 by_cases e:q=j
 ·subst e
  rw[List.getElem?_set_self hj]at hq
  have:=cells_setC_in (w:=w) (o:=o+q) (vs:=[v]) hb (by simp;omega) 0 u (by simpa using hq)
  simpa using this
 ·rw[List.getElem?_set_ne (Ne.symm e)]at hq
  rw[World.cell?_setCells_out b [v] (o+j) w ⟨b,o+q,none⟩ (fun _ _=>by
   show o+q<o+j∨o+j+1≤o+q
   omega)]
  exact h q u hq
theorem elem_apart {a b j k n:Nat}(hj:j<n)(hk:k<n)(hne:j≠k):a*n+j≠b*n+k:=by
 intro e
 have h1:(a*n+j)%n=j:=by rw[Nat.add_comm,Nat.add_mul_mod_self_right];exact Nat.mod_eq_of_lt hj
 have h2:(b*n+k)%n=k:=by rw[Nat.add_comm,Nat.add_mul_mod_self_right];exact Nat.mod_eq_of_lt hk
 rw[e]at h1
 omega
theorem op_store (hE:EnvOk P E)(h:Rel F c w R σ a){t:Nat}{x y:Operand}(hop:o.op= .store t x y)(hd:opD E σ site o some=some d)(hF:∀n z,look F.io n=some z→n<1000):Does P o a w (Post F σ a d):=by
 simp only[opD,hop]at hd
 split at hd
 ·rename_i i l g ls hi hx hy
  split at hd
  ·rename_i hg
   simp only[Bool.and_eq_true]at hg
   obtain⟨hlen,hal⟩:=hg
   have hlen:=Nat.eq_of_beq_eq_true hlen
   have hT:=hE.ty t i hi
   have hlv:=V1.one (eval_rel h hx)
   obtain⟨hcs,hone⟩:=V1.cells' h (eval_rel h hy) hal
   have hcl:=hcs.length
   simp only[Array.length_toList]at hcl
   rw[storeD_eq]at hd
   unfold storeD0 at hd
   split at hd
   ·rename_i m off
    split at hd
    ·rename_i old hm
     split at hd
     ·rename_i hle
      simp only[Bool.and_eq_true,Bool.or_eq_true,Bool.not_eq_true']at hle
      obtain⟨hle,hfl⟩:=hle
      have hle:=Nat.le_of_ble_eq_true hle
      have hd:=(Option.some.inj hd).symm
      subst hd
      obtain⟨b,hb,hv⟩:=hlv old hm
      obtain⟨b',cs,e,h1,h2,h3,h4⟩:=h.hp m _ hm
      rw[hb]at h1
      cases h1
      have h4l:=h4.length
      simp only[Array.length_toList]at h4l
      refine Does.skip (store_run hop hT hv (by omega) (n:=old.length) ⟨cs,e,0,0,h3,by omega, .inl (Nat.le_refl 0)⟩ (by omega) hone) ?_
      refine store_box h hm hle hcs hb (fun hio=> ?_)
      rcases hfl with hfl|hfl
      ·cases hz:look F.io m with
       |none=>exact absurd hz hio
       |some z=>exact absurd (hF m z hz) (by rw[←Nat.blt_eq,hfl];simp)
      ·exact hfl
     ·exact no hd
    ·exact no hd
   ·rename_i m i' j
    split at hd
    ·rename_i T dd xs hm
     obtain⟨hil,b,o',hb,hv⟩:=hlv _ _ _ hm
     obtain⟨v1,v2,v3,f1,f2,f3,hfp,hbk,hat,hc1,hc2,hc3⟩:=row_split h hm hil hb
     have hl1:v1.length=i'*T.len:=by rw[←contV_length hc1,flatG_length,List.length_take,Nat.min_eq_left (by omega)]
     have hl2:v2.length=T.len:=by rw[←contV_length hc2,ETy.sgs_length]
     have hroom:i'*T.len+T.len≤xs.length*T.len:=by
      have:=Nat.mul_le_mul_right T.len hil
      rw[Nat.succ_mul]at this
      exact this
     split at hd
     ·rename_i hj
      simp only[Bool.and_eq_true]at hj
      have hj0:=Nat.eq_of_beq_eq_true hj.1
      have hjl:=Nat.eq_of_beq_eq_true hj.2
      subst hj0
      split at hd
      ·rename_i x' hfz
       split at hd
       ·rename_i hgd
        simp only[Bool.and_eq_true,Bool.not_eq_true']at hgd
        obtain⟨⟨⟨hown,hnd⟩,hmm⟩,hpf⟩:=hgd
        have hnd:=(nodup_iff _).1 hnd
        have hmd:m∉refsOf ls:=fun hmem=>by rw[(mem_iff _ _).2 hmem]at hmm;cases hmm
        have hd:=(Option.some.inj hd).symm
        subst hd
        have hpf':∀l,σ.has l→∀i2 j2,l= .pref m i2 j2→i2<xs.length→j2<T.len→(o'+i2*T.len+j2<o'+i'*T.len+0∨o'+i'*T.len+0+(a.eval y).cells.toList.length≤o'+i2*T.len+j2):=by
         intro l hl i2 j2 e _ _
         subst e
         obtain⟨q,hq,_⟩:=prefFree_spec hpf hl
         cases hq
        refine Does.skip (store_run hop hT hv (by omega) (n:=o'+xs.length*T.len) hbk (by omega) hone) ?_
        have hus:cellsAt (w.setCells b (o'+i'*T.len+0) (a.eval y).cells.toList) b (o'+i'*T.len) (a.eval y).cells.toList:=cells_setC_in hbk (by simp;omega)
        cases dd with
        |true=>
         have hown':ownLs σ.heap ls=true:=by simpa using hown
         have hbl:=lsFp_blocks h hown'
         exact store_row h hm hil hmd hb (by omega) (by simp;omega) hfp hbk hat hc1 hc2 hc3 (R':=R) (fun _ h=>h) (fun k hk=> .inl hk) (lsFp_nodup h hown' hnd) (fun k hk=>⟨(hbl k hk).1, .inr (hbl k hk).2⟩)
          (frzRs_ownV h T ls x' _ hfz hown' hcs) hus hpf'
        |false=>
         have hvals:=frzRs_vals h (R':=fun k=>R k∨∃n e,look σ.heap n=some e∧n∈refsOf ls∧k∈c.fp n) (fun _ h=> .inl h) T ls x' _ (fun l hl n e hsy hn k hk=> .inr ⟨n,e,hn,says_refss T ls x' hfz l hl hsy,hk⟩) hfz hcs
         exact store_row h hm hil hmd hb (by omega) (by simp;omega) hfp hbk hat hc1 hc2 hc3 (g2:=[]) (R':=fun k=>R k∨∃n e,look σ.heap n=some e∧n∈refsOf ls∧k∈c.fp n) (fun _ h=> .inl h) (fun k hk=>hk) List.nodup_nil (fun k hk=>by cases hk)
          ⟨rfl,hvals⟩ hus hpf'
       ·exact no hd
      ·exact no hd
     ·split at hd
      ·rename_i g' _ _
       split at hd
       ·rename_i hgf
        simp only[Bool.and_eq_true]at hgf
        obtain⟨hgf,hpf⟩:=hgf
        split at hd
        ·rename_i x' hset
         have hd:=(Option.some.inj hd).symm
         subst hd
         have hgetD:xs.getD i' T.dflt=xs[i']:=by simp[List.getD,hil]
         rw[hgetD]at hset
         obtain⟨hsg,g0,hg0,hgt⟩:=setSg_sgs T xs[i'] j g' x' hset
         have hjT:j<T.len:=by
          have:=(List.getElem?_eq_some_iff.1 hg0).1
          rwa [ETy.sgs_length]at this
         obtain⟨u,hu1,hu2⟩:=one_of hcs
         have hu3:g'.own w u []:=by
          have hu2:g'.ro w R u:=hu2
          cases g'<;>simp[Sg.t,LTy.flat]at hgf<;>exact⟨hu2,rfl⟩
         have hcl1:(a.eval y).cells.size=1:=by simpa using congrArg List.length hu1
         have hone1:i.zero.length=1:=by rw[←hlen];rfl
         refine Does.skip (store_run hop hT hv (by omega) (n:=o'+xs.length*T.len) hbk (by omega) hone) ?_
         rw[hu1]
         have hat2:cellsAt w b (o'+i'*T.len) v2:=by
          have:=(cellsAt_append.1 (cellsAt_append.1 hat).2).1
          rwa [hl1]at this
         refine store_row h hm hil (by simp) hb (by omega) (by simp;omega) hfp hbk hat hc1 hc2 hc3 (g2:=f2) (u2:=v2.set j u) (R':=R) (fun _ h=>h) (fun k hk=> .inl hk) ?_ (fun k hk=>⟨(h.nr m _ hm k (by rw[hfp];simp[hk])).1, .inl hk⟩) ?_ (cellsAt_set (by omega) hat2 (hbk.mono (by omega))) ?_
         ·have:=h.nd m _ hm
          rw[hfp,List.nodup_cons,List.nodup_append,List.nodup_append]at this
          exact this.2.2.1.1
         ·rw[hsg]
          exact contV_set hc2 hg0 (by rw[hgt];exact hgf) hu3
         ·intro l hl i2 j2 e hi2 hj2
          subst e
          obtain⟨q,hq,hne⟩:=prefFree_spec hpf hl
          cases hq
          have:=elem_apart (a:=i2) (b:=i') hj2 hjT hne
          simp only[List.length_cons,List.length_nil]
          omega
        ·exact no hd
       ·exact no hd
      ·exact no hd
    ·exact no hd
   ·exact no hd
  ·exact no hd
 ·exact no hd
end
end V
end Go.Proofs.YtcbeaoigenjoeaeGreat
