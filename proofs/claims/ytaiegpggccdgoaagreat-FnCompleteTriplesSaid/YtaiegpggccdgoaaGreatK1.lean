/-
  LawFnCompleteTriples: part 1 of the texts that the proof needs. No condition.
-/
import Derived.Test.YtaiegpggccdgoaaGreatRows
import Derived.WalkKit
import Derived.Lib.Hide
import Derived.Deep.LoopGhost
import Derived.Deep.Draws
import Derived.Deep.OwnRows
import Derived.Maps.AppendAt
import Derived.OwnWalk
import Derived.Deep.MidRow
import Derived.IntWalk
import Derived.Deep.QuietTactic
import Derived.BigQuiet
import Derived.ProofKit
import Derived.OpenShut
import Derived.Deep.Strs
import Derived.Deep.RegionHeld3
import Derived.WalkSpells
import Derived.Deep.AppendLies
import Derived.Maps.RangeWalk
import Derived.Maps.OwnSet
import Derived.Lib.SmallJoins
import Derived.Lib.AppendZeros
import Derived.Deep.Upon
import Derived.Deep.Light
namespace Go.Proofs.YtaiegpggccdgoaaGreat
theorem zA {α:Type _} {l:List α} {i:Nat}:l.toArray[i]? = l[i]?:=List.getElem?_toArray
theorem zB {α:Type _} {a:α} {l:List α} {i:Nat}:(a::l)[i+1]? = l[i]?:=List.getElem?_cons_succ
theorem zC {α:Type _} {a:α} {l:List α}:(a::l)[0]? = some a:=List.getElem?_cons_zero
theorem zD {α:Type _} {l:List α} {i:Nat} {a:α}:l.toArray.setIfInBounds i a=(l.set i a).toArray:=List.setIfInBounds_toArray _ _ _
theorem zE {α:Type _} {x:α} {xs:List α} {a:α}:(x::xs).set 0 a=a::xs:=List.set_cons_zero
theorem zH {α:Type _} {x d:α} {xs:List α} {n:Nat}:(x::xs).getD (n+1) d=xs.getD n d:=List.getD_cons_succ
theorem zI {α:Type _} {x d:α} {xs:List α}:(x::xs).getD 0 d=x:=List.getD_cons_zero
theorem zJ {α:Type _} {a:α}:¬a∈([]:List α):=List.not_mem_nil
theorem zK {α:Sort _} {p q:α→Prop} {a':α}:(∀ a,a=a'∨q a→p a)↔p a' ∧ ∀ a,q a→p a:=forall_eq_or_imp
theorem zG {B:Nat} {w:World}:Go.RowKit.Below B w w:=Go.RowKit.Below.refl _ _
theorem zL {α:Type _} {a b:α} {l:List α} {p:α→Prop}:(∀ i∈a::b::l,p i)↔p a ∧ ∀ i∈b::l,p i:=List.forall_mem_cons
theorem zM {α:Type _} {a:α} {p:α→Prop}:(∀ i∈[a],p i)↔p a:=by simp
theorem zF {α:Type _} {x:α} {xs:List α} {i:Nat} {a:α}:(x::xs).set (i+1) a=x::xs.set i a:=List.set_cons_succ
end Go.Proofs.YtaiegpggccdgoaaGreat
namespace Go.Proofs.YtaiegpggccdgoaaGreat
open Go.RowKit
def ints (xs:List Int):List Value:=xs.map (Value.int .i64)
theorem yD (xs:List Int):(ints xs).length=xs.length:=by simp[ints]
theorem ybK (xs:List Int) (k:Nat) (h:k<xs.length):(ints xs)[k]? = some (.int .i64 xs[k]):=by simp[ints,h]
def Rd (w:World) (A:Option Addr) (n:Nat) (us:List Value):Prop:=
 us.length=n∧(0<n → ∃ g o,A=some ⟨g,o,none⟩ ∧ ∀ k u,us[k]? = some u→w.cell? ⟨g,o+k,none⟩=some u)
theorem Rd.nil (w:World) (A:Option Addr):Rd w A 0 []:=⟨rfl,fun h=>absurd h (by omega)⟩
theorem Rd.keep {w w':World} {A:Option Addr} {n:Nat} {us:List Value} (h:Rd w A n us)
 (hk:∀ p:Addr,p.block<w.heap.size→w'.cell? p=w.cell? p):Rd w' A n us:=
 ⟨h.1,fun hn=>by
  obtain⟨g,o,e,hc⟩:=h.2 hn
  exact⟨g,o,e,fun k u hu=>(hk _ (World.block_lt_of_cell? w _ (hc k u hu))).trans (hc k u hu)⟩⟩
theorem Rd.below {w w':World} {A:Option Addr} {n:Nat} {us:List Value} (h:Rd w A n us) (hb:Below w.heap.size w w'):Rd w' A n us:=
 h.keep fun _ hp=>hb.cell hp
theorem Rd.int {w:World} {A:Option Addr} {n:Nat} {xs:List Int} (h:Rd w A n (ints xs)) {k:Nat} (hk:k<n) :
 ∃ g o,A=some ⟨g,o,none⟩ ∧ ∃ hx:k<xs.length,w.cell? ⟨g,o+k,none⟩=some (.int .i64 xs[k]):=by
 obtain⟨g,o,e,hc⟩:=h.2 (by omega)
 have hl:k<xs.length:=by have:=h.1;rw[yD]at this;omega
 exact⟨g,o,e,hl,hc k _ (ybK xs k hl)⟩
def Own (w:World) (B:Nat) (E:TypeId) (A:Option Addr) (n c:Nat) (us:List Value):Prop:=w.ownsRow B E 1 (.slice A n c) n us
section
variable {w w' w0 w1:World} {B B':Nat} {E:TypeId} {A:Option Addr} {n c:Nat} {us:List Value}
theorem Own.len (h:Own w B E A n c us):us.length=n:=by have:=h.1;simpa using this
theorem Own.rd (h:Own w B E A n c us):Rd w A n us:=by
 refine⟨h.len,fun hn=>?_⟩
 rcases h.2 with ⟨_,h0⟩ | ⟨g,cap,cur,he,_⟩
 ·omega
 ·injection he with hA
  subst hA
  refine⟨g,0,rfl,fun k u hu=>?_⟩
  have:=World.ownsRow.cells (g:=g) h rfl k u hu
  rwa [Addr.add_lit]at this
theorem Own.below (h:Own w B E A n c us) (hb:Below w.heap.size w w'):Own w' B E A n c us:=by
 refine⟨h.1,?_⟩
 rcases h.2 with hn | ⟨g,cap,cur,he,hB,hg,r⟩
 ·exact .inl hn
 ·exact .inr ⟨g,cap,cur,he,hB,(hb.block g (Array.getElem?_eq_some_iff.1 hg).1).trans hg,r⟩
theorem Own.base (h:Own w B E A n c us) (hB:B'≤B):Own w B' E A n c us:=by
 refine⟨h.1,?_⟩
 rcases h.2 with hn | ⟨g,cap,cur,he,hb,r⟩
 ·exact .inl hn
 ·exact .inr ⟨g,cap,cur,he,by omega,r⟩
theorem Own.form (h:Own w B E A n c us):(A=none∧n=0) ∨ ∃ g,A=some ⟨g,0,none⟩∧B≤g∧g<w.heap.size:=by
 rcases h.2 with ⟨he,h0⟩ | ⟨g,cap,cur,he,hB,hg,_⟩
 ·injection he with hA;exact .inl ⟨hA,h0⟩
 ·injection he with hA;exact .inr ⟨g,hA,hB,(Array.getElem?_eq_some_iff.1 hg).1⟩
theorem Own.cap (h:Own w B E A n c us):n≤c:=by
 rcases h.2 with ⟨he,h0⟩ | ⟨g,cap,cur,he,_,_,hc,_⟩
 ·omega
 ·injection he with _ _ hc';omega
theorem Own.grown {row:Option Nat} (h:Own w B E A n c us) (hg:w.grownBy w' row) (hne:(Value.slice A n c).ownBlock=none∨(Value.slice A n c).ownBlock≠row):Own w' B E A n c us:=h.kept hg hne
theorem Own.cut {k:Nat} (h:Own w B E A n c us) (hk:k≤n):Own w B E A k c (us.take k):=by
 refine⟨by rw[List.length_take,h.len];omega,?_⟩
 rcases h.2 with ⟨he,h0⟩ | ⟨g,cap,cur,he,hB,hg,hnc,hcm,hcs,ht⟩
 ·left;injection he with e1 e2 e3;subst e1;subst e3;exact⟨by congr;omega,by omega⟩
 ·injection he with e1 e2 e3
  subst e1;subst e3
  refine .inr ⟨g,c,cur,rfl,hB,hg,by omega,hcm,hcs,?_⟩
  rw[← ht,List.take_take];congr 1;omega
def Mk (w0 w:World) (E:TypeId) (A:Option Addr) (n c:Nat) (us:List Value):Prop:=Below w0.heap.size w0 w∧Own w w0.heap.size E A n c us
theorem Mk.b (h:Mk w0 w E A n c us):Below w0.heap.size w0 w:=h.1
theorem Mk.rd (h:Mk w0 w E A n c us):Rd w A n us:=h.2.rd
theorem Mk.nil (h:Below w0.heap.size w0 w):Mk w0 w E none 0 0 []:=⟨h,World.ownsRow_nil _ _ _ _⟩
theorem Mk.lit (h:Below w0.heap.size w0 w) (cs:Array Value) (hm:cs.size≤maxLen):Mk w0 (w.alloc (.cells cs E)) E (some ⟨w.heap.size,0,none⟩) cs.size cs.size cs.toList:=
 ⟨h.alloc h.size _,World.ownsRow_lit w cs cs.size h.size hm (by simp)⟩
theorem Own.of_cells {cs:Array Value} {g:Nat} (hg:B≤g) (hc:w.heap[g]? = some (.cells cs E (0,0))) (hm:cs.size≤maxLen):Own w B E (some ⟨g,0,none⟩) cs.size cs.size cs.toList:=
 ⟨by simp,.inr ⟨g,cs.size,cs,rfl,hg,hc,Nat.le_refl _,hm,by simp,List.take_of_length_le (by simp)⟩⟩
theorem ye6 (w:World) (o o':Obj) (g:Nat) (h:w.heap[g]? = some o'):(w.alloc o).heap[g]? = some o':=(Below.heap_alloc w o g (Array.getElem?_eq_some_iff.1 h).1).trans h
theorem Mk.made {z:Value} (h:Below w0.heap.size w0 w) (hm:n≤maxLen):Mk w0 (w.alloc (.cells (madeCells #[z] n) E)) E (some ⟨w.heap.size,0,none⟩) n n (List.replicate n z):=by
 have hl:=Mk.lit (E:=E) h (madeCells #[z] n) (by simpa [size_madeCells] using hm)
 rw[size_madeCells,toList_madeCells_one]at hl
 exact hl
theorem Mk.after (h:Mk w1 w E A n c us) (hb:Below w0.heap.size w0 w1):Mk w0 w E A n c us:=
 ⟨hb.trans (h.1.mono hb.size),h.2.base hb.size⟩
theorem Mk.below (h:Mk w0 w E A n c us) (hb:Below w.heap.size w w'):Mk w0 w' E A n c us:=
 ⟨h.1.trans (hb.mono h.1.size),h.2.below hb⟩
theorem Mk.alloc (h:Mk w0 w E A n c us) (o:Obj):Mk w0 (w.alloc o) E A n c us:=h.below (zG.alloc (Nat.le_refl _) _)
variable {g:Nat}
theorem Own.cell_ (h:Own w B E (some ⟨g,0,none⟩) n c us) {k:Nat} (hk:k<n):∃ u,us[k]? = some u∧w.cell? ⟨g,k,none⟩=some u:=by
 have hl:k<us.length:=by rw[h.len];exact hk
 exact⟨us[k],List.getElem?_eq_getElem hl,(World.ownsRow.cellAt h k (by omega)).trans (List.getElem?_eq_getElem hl)⟩
theorem Own.cellI {xs:List Int} (h:Own w B E (some ⟨g,0,none⟩) n c (ints xs)) {k:Nat} (hk:k<n):∃ x,w.cell? ⟨g,k,none⟩=some (.int .i64 x):=by
 have hl:k<xs.length:=by have:=h.len;rw[yD]at this;omega
 exact⟨xs[k],(World.ownsRow.cellAt h k (by omega)).trans (ybK xs k hl)⟩
theorem Own.frozen_ (h:Own w B E (some ⟨g,0,none⟩) n c us) (k:Nat):w.frozen? ⟨g,k,none⟩=false:=World.ownsRow.frozenAt h k
theorem Mk.set (h:Mk w0 w E (some ⟨g,0,none⟩) n c us) (k:Nat) (u:Value):Mk w0 (w.setCell ⟨g,k,none⟩ u) E (some ⟨g,0,none⟩) n c (us.set k u)∧w.grownBy (w.setCell ⟨g,k,none⟩ u) (some g):=by
 obtain⟨h1,h2⟩:=World.ownsRow.stored h.2 k u
 exact⟨⟨h.1.setCell (h.2.lt g rfl).1 _,h1⟩,h2⟩
end
theorem xh {n:Nat} (h:n≤1099511627776):n+1≤maxLen ∧ ∀ b,b≤24→(n+1)*b≤140737488355328:=by
 refine⟨by simp only[maxLen];omega,fun b hb=>?_⟩
 have:=Nat.mul_le_mul_left (n+1) hb
 omega
theorem yt {P:Program} {ops:Array Oper} {rest:List Oper} {o:Oper} {a:Act} {Q:Exit→Act→World→Prop} (w0 wr:World) (T E:TypeId) (z:Value) (bytes:Nat)
 (ht:P.underlying T=some (.slice E)) (hinfo:(P.info? E).map (fun i=>(i.zero,i.size,i.bytes))=some (some z,1,bytes)) (hz:z.cells.size=1) (hby:bytes≤24)
 (hgd:o.guard=none) (s x:Operand) (ho:o.op=.call { callee:=.builtin .append,args:=#[s,x],argTypes:=#[T,T] })
 (A:Option Addr) (n c:Nat) (us:List Value) (u:Value) (hM:Mk w0 wr E A n c us) (hn:n≤1099511627776) (hu:u.oneCell'=true)
 (hs:a.eval s=.slice A n c) (hx:a.eval x=.slice (some ⟨wr.heap.size,0,none⟩) 1 1)
 (h:∀ A' c' w',Mk w0 w' E A' (n+1) c' (us++[u])→wr.grownBy w' (Value.slice A n c).ownBlock→(∃ g,A'=some ⟨g,0,none⟩∧((Value.slice A n c).ownBlock=some g∨wr.heap.size≤g)) →
  wpList P ops Q rest (a.put o.dst (.slice A' (n+1) c')) w') :
 wpList P ops Q (o::rest) a (wr.alloc (.cells #[u] E)):=by
 obtain⟨i,hi,h1,h2,h3⟩:=info_parts hinfo
 obtain⟨b1,b2⟩:=xh hn
 refine wpList_append_own_at (wr.alloc (.cells #[u] E)) hgd s x T ho w0.heap.size E i z 1 bytes ht hi h1 h2 h3 hz (by omega) (.slice A n c) n us hs (hM.alloc _).2 ⟨wr.heap.size,0,none⟩ 1 1 [u] hx rfl (cell_one_new _ _ _)
  (by intro v hv;simp at hv;rw[hv];exact hu) b1 (b2 _ hby) (by have:=hM.1.size;simp;omega) ?_
 intro v' w' hown hg _ hat
 have hg':wr.grownBy w' (Value.slice A n c).ownBlock:=World.grownBy.trans (World.grownBy_alloc wr _ _) hg
 rcases hown.2 with ⟨_,h0⟩ | ⟨g,cap,cur,rfl,hr⟩
 ·omega
 ·refine h _ _ _ ⟨hM.1.grown hg' hM.1.size (fun k hk=>(hM.2.lt k hk).1),hown⟩ hg' ⟨g,rfl,?_⟩
  rcases hat with he | he
  ·exact .inl he.symm
  ·right
   have:g=(wr.alloc (.cells #[u] E)).heap.size:=by simpa [Value.ownBlock] using he
   simp at this;omega
theorem yo:(Tryz.prog.info? 2).map (fun i=>(i.zero,i.size,i.bytes))=some (some (.int .i64 0),1,8):=by kernel_rfl
theorem zy:(Tryz.prog.info? 24).map (fun i=>(i.zero,i.size,i.bytes))=some (some (.slice none 0 0),1,24):=by kernel_rfl
abbrev MkI (w0 w:World) (A:Option Addr) (n c:Nat) (xs:List Int):Prop:=Mk w0 w 2 A n c (ints xs)
theorem xj (n:Nat):List.replicate n (Value.int .i64 0)=ints (List.replicate n 0):=by simp[ints]
theorem yN (xs:List Int) (k:Nat) (x:Int):(ints xs).set k (.int .i64 x)=ints (xs.set k x):=by simp[ints,List.map_set]
theorem yfb (xs ys:List Int):ints xs++ints ys=ints (xs++ys):=by simp[ints]
theorem xE {P:Program} (t e:TypeId) (ht:P.underlying t=some (.slice e)) (hi:(P.info? e).map (fun i=>(i.zero,i.size,i.bytes))=some (some (.int .i64 0),1,8)) (n:Nat) (hn:n≤1099511627776) :
 ∀ w:World,(Instr.makeSlice t (.int .i64 (n:Int)) (.int .i64 (n:Int))).run P w=.ok (.slice (some ⟨w.heap.size,0,none⟩) n n) (w.alloc (.cells (madeCells #[.int .i64 0] n) e)):=
 run_make_row' t e (.int .i64 0) 8 ht hi rfl .i64 .i64 n (by omega) (by omega)
theorem vz {B:Nat} {a w:World} (h:Below B a w) (n:Nat):Below B a (w.drewN n):=⟨h.os,h.tape,h.output,h.size,h.block⟩
theorem ycF {P:Program} {f:FuncId} {args:Array Value} {w:World} {a n:Nat} {v:Value}
 (h:Calls P f args (w.drewN (a+n)) fun e w'=>e=.returned v∧w.drewN (a+n)=w') :
 Calls P f args (w.drewN (a+n)) fun e w''=>e=.returned v ∧ ∃ m,w''=w.drewN (a+m):=
 h.mono fun _ _ ⟨he,hm⟩=>⟨he,n,hm.symm⟩
theorem yfs {B:Nat} {W0 w1 w2:World} {p q:Addr} {u v:Value} (h:w1.cell? p=some u∧w1.cell? q=some v∧Below B W0 w1) (hb:Below w1.heap.size w1 w2) (hB:B≤W0.heap.size) :
 w2.cell? p=some u∧w2.cell? q=some v∧Below B W0 w2:=
 ⟨(hb.cell (World.block_lt_of_cell? _ _ h.1)).trans h.1,(hb.cell (World.block_lt_of_cell? _ _ h.2.1)).trans h.2.1,h.2.2.trans (hb.mono (Nat.le_trans hB h.2.2.size))⟩
def Blk (w:World) (g:Nat) (t:TypeId) (cs:Array Value):Prop:=w.heap[g]? = some (.cells cs t (0,0))
section
variable {w w':World} {g:Nat} {t:TypeId} {cs:Array Value}
theorem Blk.lt (h:Blk w g t cs):g<w.heap.size:=(Array.getElem?_eq_some_iff.1 h).1
theorem Blk.cell (h:Blk w g t cs) (i:Nat):w.cell? ⟨g,i,none⟩=cs[i]?:=cell_of_row w g i cs t (0,0) h
theorem Blk.frozen (h:Blk w g t cs) (i:Nat):w.frozen? ⟨g,i,none⟩=false:=by
 unfold Blk at h
 simp[World.frozen?,h]
theorem Blk.new (w:World) (t:TypeId) (cs:Array Value):Blk (w.alloc (.cells cs t)) w.heap.size t cs:=heap_alloc_new w _
theorem Blk.alloc (h:Blk w g t cs) (o:Obj):Blk (w.alloc o) g t cs:=ye6 w o _ g h
theorem Blk.below {B:Nat} (h:Blk w g t cs) (hb:Below B w w') (hg:g<B):Blk w' g t cs:=(hb.block g hg).trans h
theorem Blk.grown {row:Option Nat} (h:Blk w g t cs) (hb:w.grownBy w' row) (hg:some g≠row):Blk w' g t cs:=(hb.block g h.lt hg).trans h
theorem Blk.drew (h:Blk w g t cs):Blk w.drew g t cs:=h
theorem Blk.two {a b:Value} (h:Blk w g t #[a,b]):w.cell? ⟨g,0,none⟩=some a∧w.cell? ⟨g,1,none⟩=some b:=⟨h.cell 0,h.cell 1⟩
theorem Own.ne_blk {B:Nat} {E:TypeId} {A:Option Addr} {n c:Nat} {us:List Value} (h:Own w B E A n c us) (hb:Blk w g t cs) (hE:E≠t):some g≠(Value.slice A n c).ownBlock:=by
 rcases h.2 with ⟨he,_⟩ | ⟨g',cap,cur,he,_,hg',_⟩
 ·injection he with hA;subst hA;simp[Value.ownBlock]
 ·injection he with hA;subst hA
  simp only[Value.ownBlock,ne_eq,Option.some.injEq]
  rintro rfl
  unfold Blk at hb
  rw[hb]at hg'
  injection hg' with hg'
  injection hg' with _ ht
  exact hE ht.symm
end
theorem Blk.set_ {w:World} {g:Nat} {t:TypeId} {cs:Array Value} (h:Blk w g t cs) (i:Nat) (u:Value):Blk (w.setCell ⟨g,i,none⟩ u) g t (cs.setIfInBounds i u):=by
 unfold Blk at h ⊢
 simp[World.setCell,Array.getElem?_modify,h]
theorem Blk.far {w:World} {g:Nat} {t:TypeId} {cs:Array Value} (h:Blk w g t cs) {p:Addr} (hp:g≠p.block) (u:Value):Blk (w.setCell p u) g t cs:=(Below.heap_setCell w p u g hp).trans h
theorem Own.far {w:World} {g:Nat} {t E:TypeId} {cs:Array Value} {B:Nat} {A:Option Addr} {n c:Nat} {us:List Value} (h:Own w B E A n c us) (k:Blk w g t cs) (hE:E≠t) (i:Nat) (u:Value):Own (w.setCell ⟨g,i,none⟩ u) B E A n c us:=by
 have hne:=h.ne_blk k hE
 refine⟨h.1,?_⟩
 rcases h.2 with hn | ⟨g',cap,cur,he,hB,hg,r⟩
 ·exact .inl hn
 ·refine .inr ⟨g',cap,cur,he,hB,?_,r⟩
  rw[Below.heap_setCell _ _ _ _ (fun e=>hne (by rw[he];simp[Value.ownBlock,e]))]
  exact hg
theorem yJ {a b:Bool} (h:a=b):Ending.returned (.bool a)=.returned (.bool b):=by rw[h]
theorem xu {k:IntKind} {a b:Int} (h:a=b):Ending.returned (.int k a)=.returned (.int k b):=by rw[h]
end Go.Proofs.YtaiegpggccdgoaaGreat
namespace Go.Proofs.YtaiegpggccdgoaaGreat
open Go.ChangeShapes Go.WideShapes Go.ChangeAt Go.RowKit
section
variable {H:Type} {enc:TypeId × Value→H} {P:Program}
theorem ygH {f:Func} {s:ChangeSpec} {apart fresh handsOn again:Bool} {W W':World} {args:Array Value} {v:Value} {ds gs:List (DataW H)} {before pa pv:List MemPlace}
 (whole:DataW.Whole enc P f.params.toList s.vars apart W args.toList ds gs before)
 (res:∀ (b:Nat) (sp:Nat→Bool) (hd:Bool),DataW.TrodAll enc P W' b sp hd f.resultTypes.toList (v.resultList f.resultTypes.size) (s.fn H (ds++gs)).results [])
 (arg:∀ sp:Nat→Bool,(∀ p∈before,sp p.block=true)→DataW.TrodAll enc P W' 0 sp true f.params.toList args.toList (s.fn H (ds++gs)).args pa)
 (var:∀ sp:Nat→Bool,(∀ p∈before,sp p.block=true)→DataW.TrodVars enc P W' sp s.vars (s.fn H (ds++gs)).vars pv)
 (places:before=pa++pv) (below:Below W.heap.size W W')
 (ok:∀ (j:Nat) (t:TypeId) (r:Value),f.resultTypes[j]? = some t→(v.resultList f.resultTypes.size)[j]? = some r→Value.okWide P W' .any 0 t r) :
 s.post enc P f apart fresh handsOn again W args v W':=by
 have old:∀ p∈before,p.block<W.heap.size:=fun p hp=>whole.lt p hp
 have seen:∀ p∈before,(fun b=>decide (b<W.heap.size)) p.block=true:=fun p hp=>decide_eq_true (old p hp)
 have frame:W.keptBut W' (fun p=>p∈before∧(p∈([]:List MemPlace)∨p∈pa++pv)):=
  World.keptBut_mono (fun p hp=>⟨hp,.inr (places▸hp)⟩) (below.frame (fun p=>p∈before))
 refine⟨ds,gs,before,[],pa,pv,whole,res _ _ _,arg _ seen,var _ seen,?_,fun _=>?_⟩
 ·refine World.keptBut_mono (fun p hp=>?_) frame
  obtain⟨h1,h2⟩:=hp
  refine⟨h1,?_⟩
  rcases h2 with h2 | h2
  ·cases h2
  ·exact Or.inr (by simpa [List.mem_append] using h2)
 ·obtain⟨_,_,_,_,_,hz,hn⟩:=whole
  refine⟨ok,_,_,([]++pa)++pv,⟨[]++pa,pv,trodAll_append (arg _ (fun _ _=>rfl)) (res _ _ _),var _ (fun _ _=>rfl),rfl,fun b off hp=>?_,fun ha=>?_⟩,fun p hp _=>?_⟩
  ·have hin:MemPlace.cell b off∈before:=by rw[places];simpa using hp
   rw[below.frozen (old _ hin)]
   exact hz b off hin
  ·have:=hn ha
   rw[places]at this
   simpa using this
  ·rw[places]
   simpa using hp
end
theorem ydL:Tryz.prog.cellsOf 5=1:=by kernel_rfl
section
variable {H:Type} {enc:TypeId × Value→H} {w:World} {base:Nat} {spare:Nat→Bool} {held:Bool}
theorem ygy {fuel:Nat} {cs:List Value} {x:DataW H × List MemPlace} (h:DataW.trod enc Tryz.prog w base spare held fuel 22 cs=some x) :
 ∃ (A:Option Addr) (n c:Nat) (xs:List Int),cs=[.slice A n c]∧n≤c∧Rd w A n (xs.map (Value.int .u8))∧(∀ b∈xs,0≤b∧b<256):=by
 rcases open_ints Tryz.underlying22 Tryz.underlying5 ydL h with ⟨hcs,hx⟩ | ⟨a,len,cap,zs,hcs,_,hl,hm,hz,hx,hcell,hwz⟩
 ·exact⟨none,0,0,[],hcs,Nat.le_refl _,Rd.nil _ _,by simp⟩
 ·have hlz:len≤zs.length:=by rw[hz];split<;>omega
  refine⟨some a,len,cap,zs.take len,hcs,hl,⟨by rw[List.length_map,List.length_take];omega,fun hp=>?_⟩,fun b hb=>?_⟩
  ·obtain⟨b,off,rfl,hc⟩:=ints_at hcell (by omega)
   refine⟨b,off,rfl,fun k u hu=>?_⟩
   have hk:k<len:=by
    have:=(List.getElem?_eq_some_iff.1 hu).1
    rw[List.length_map,List.length_take]at this
    omega
   rw[hc k (by omega)]
   rw[List.getElem?_map,List.getElem?_take,if_pos hk,List.getElem?_eq_getElem (by omega)]at hu
   rw[← hu]
   simp[List.getD,show k<zs.length by omega]
  ·have:=hwz b (List.mem_of_mem_take hb)
   simp only[Lit.wf,Bool.and_eq_true,decide_eq_true_eq]at this
   have e1:IntKind.u8.min=0:=rfl
   have e2:IntKind.u8.max=255:=rfl
   rw[e1,e2]at this
   omega
end
theorem ygx {P:Program} {w:World} {base:Nat} {t e:TypeId} {A:Option Addr} {n c:Nat} (ht:P.underlying t=some (.slice e)) (h:Value.okWide P w .any base t (.slice A n c)):∀ a,A=some a→a.block<w.heap.size:=by
 rintro a rfl
 simp only[Value.okWide,ht,Cell.okWide,Cell.ok]at h
 obtain⟨_,_,_,_,row,cells,hs,_⟩:=h
 refine Classical.byContradiction fun hlt=>?_
 rw[World.shape?,Array.getElem?_eq_none (by omega)]at hs
 cases hs
end Go.Proofs.YtaiegpggccdgoaaGreat
namespace Go.Proofs.YtaiegpggccdgoaaGreat
open Go.RowKit
theorem Own.ne {w:World} {B B':Nat} {E E':TypeId} {A A':Option Addr} {n n' c c':Nat} {us us':List Value} (h:Own w B E A n c us) (h':Own w B' E' A' n' c' us') (hE:E≠E') :
 (Value.slice A n c).ownBlock=none∨(Value.slice A n c).ownBlock≠(Value.slice A' n' c').ownBlock:=by
 rcases h.2 with ⟨he,_⟩ | ⟨g,cap,cur,he,_,hg,_⟩
 ·left;injection he with hA;subst hA;rfl
 ·rcases h'.2 with ⟨he',_⟩ | ⟨g',cap',cur',he',_,hg',_⟩
  ·right;injection he with hA;injection he' with hA';subst hA;subst hA';simp[Value.ownBlock]
  ·right
   injection he with hA;injection he' with hA';subst hA;subst hA'
   simp only[Value.ownBlock,ne_eq,Option.some.injEq]
   rintro rfl
   rw[hg]at hg'
   injection hg' with hg'
   injection hg' with _ ht
   exact hE ht
structure Nest (w:World) (B:Nat) (rows:List Value) (xss:List (List Int)):Prop where
 len:rows.length=xss.length
 row:∀ (k:Nat) (h:k<xss.length),∃ A c,rows[k]? = some (.slice A xss[k].length c)∧Own w B 2 A xss[k].length c (ints xss[k])
 apart:∀ i j g:Nat,i<j→(rows[i]?).bind Value.ownBlock=some g→(rows[j]?).bind Value.ownBlock≠some g
theorem Nest.nil (w:World) (B:Nat):Nest w B [] []:=⟨rfl,fun k h=>absurd h (by simp),fun i j g _ h=>by simp at h⟩
theorem Nest.below {w w':World} {B:Nat} {rows:List Value} {xss:List (List Int)} (h:Nest w B rows xss) (hb:Below w.heap.size w w'):Nest w' B rows xss:=
 ⟨h.len,fun k hk=>by obtain⟨A,c,e,ho⟩:=h.row k hk;exact⟨A,c,e,ho.below hb⟩,h.apart⟩
theorem Nest.base {w:World} {B B':Nat} {rows:List Value} {xss:List (List Int)} (h:Nest w B rows xss) (hB:B'≤B):Nest w B' rows xss:=
 ⟨h.len,fun k hk=>by obtain⟨A,c,e,ho⟩:=h.row k hk;exact⟨A,c,e,ho.base hB⟩,h.apart⟩
theorem Nest.grown {w w':World} {B B':Nat} {rows:List Value} {xss:List (List Int)} {E:TypeId} {A:Option Addr} {n c:Nat} {us:List Value} (h:Nest w B rows xss)
 (ho:Own w B' E A n c us) (hE:2≠E) (hg:w.grownBy w' (Value.slice A n c).ownBlock):Nest w' B rows xss:=
 ⟨h.len,fun k hk=>by obtain⟨A',c',e,ho'⟩:=h.row k hk;exact⟨A',c',e,ho'.grown hg (ho'.ne ho hE)⟩,h.apart⟩
theorem Nest.block {w:World} {B:Nat} {rows:List Value} {xss:List (List Int)} (h:Nest w B rows xss) (i g:Nat) (hi:(rows[i]?).bind Value.ownBlock=some g):B≤g∧g<w.heap.size:=by
 by_cases hk:i<xss.length
 ·obtain⟨A,c,e,ho⟩:=h.row i hk
  rw[e]at hi
  exact World.ownsRow.lt ho g hi
 ·rw[List.getElem?_eq_none (by rw[h.len];omega)]at hi;cases hi
theorem Nest.snoc {w w':World} {B:Nat} {rows:List Value} {xss:List (List Int)} {A:Option Addr} {n c:Nat} {xs:List Int} (h:Nest w B rows xss) (hr:Mk w w' 2 A n c (ints xs)) (hB:B≤w.heap.size) :
 Nest w' B (rows++[.slice A n c]) (xss++[xs]):=by
 have hn:xs.length=n:=by have:=hr.2.len;rwa [yD]at this
 subst hn
 refine⟨by simp[h.len],fun k hk=>?_,fun i j g hij hi=>?_⟩
 ·by_cases hlt:k<xss.length
  ·obtain⟨A',c',e,ho⟩:=h.row k hlt
   rw[List.getElem_append_left hlt]
   exact⟨A',c',by rw[List.getElem?_append_left (by rw[h.len];exact hlt)];exact e,ho.below hr.1⟩
  ·have hk':k=xss.length:=by simp at hk;omega
   subst hk'
   simp only[List.getElem_append_right (Nat.le_refl _),Nat.sub_self,List.getElem_cons_zero]
   exact⟨A,c,by rw[List.getElem?_append_right (by rw[h.len];exact Nat.le_refl _),h.len,Nat.sub_self];rfl,hr.2.base hB⟩
 ·rcases Nat.lt_or_ge j rows.length with hj | hj
  ·rw[List.getElem?_append_left (by omega)]at hi
   rw[List.getElem?_append_left hj]
   exact h.apart i j g hij hi
  ·rcases Nat.lt_or_ge i rows.length with hil | hil
   ·rw[List.getElem?_append_left hil]at hi
    have hg:=(h.block i g hi).2
    rw[List.getElem?_append_right hj]
    by_cases hj0:j-rows.length=0
    ·rw[hj0]
     intro he
     have:=(World.ownsRow.lt hr.2 g (by simpa using he)).1
     omega
    ·rw[List.getElem?_eq_none (by simp;omega)];simp
   ·rw[List.getElem?_append_right hj,List.getElem?_eq_none (by simp;omega)];simp
def MkII (w0 w:World) (A:Option Addr) (n c:Nat) (xss:List (List Int)):Prop:=∃ rows,Mk w0 w 24 A n c rows∧Nest w w0.heap.size rows xss
def RdII (w:World) (A:Option Addr) (n:Nat) (xss:List (List Int)):Prop:=∃ rows,Rd w A n rows∧rows.length=xss.length ∧
 ∀ (k:Nat) (h:k<xss.length),∃ A' c',rows[k]? = some (.slice A' xss[k].length c')∧Rd w A' xss[k].length (ints xss[k])∧xss[k].length≤c'
section
variable {w w' w0 w1:World} {A:Option Addr} {n c:Nat} {xss:List (List Int)}
theorem RdII.len (h:RdII w A n xss):xss.length=n:=by obtain⟨rows,hr,hl,_⟩:=h;rw[← hl];exact hr.1
theorem RdII.below (h:RdII w A n xss) (hb:Below w.heap.size w w'):RdII w' A n xss:=by
 obtain⟨rows,hr,hl,hk⟩:=h
 exact⟨rows,hr.below hb,hl,fun k hlt=>by obtain⟨A',c',e,h1,h2⟩:=hk k hlt;exact⟨A',c',e,h1.below hb,h2⟩⟩
theorem RdII.at_ (h:RdII w A n xss) {k:Nat} (hk:k<n):∃ g o,A=some ⟨g,o,none⟩ ∧ ∃ (hx:k<xss.length) (A':Option Addr) (c':Nat),
 w.cell? ⟨g,o+k,none⟩=some (.slice A' xss[k].length c')∧Rd w A' xss[k].length (ints xss[k])∧xss[k].length≤c':=by
 have hlen:=h.len
 obtain⟨rows,hr,hl,hrow⟩:=h
 obtain⟨g,o,e,hc⟩:=hr.2 (by omega)
 have hx:k<xss.length:=by omega
 obtain⟨A',c',he,h1,h2⟩:=hrow k hx
 exact⟨g,o,e,hx,A',c',hc k _ he,h1,h2⟩
theorem MkII.rd (h:MkII w0 w A n c xss):RdII w A n xss:=by
 obtain⟨rows,hm,hn⟩:=h
 exact⟨rows,hm.rd,hn.len,fun k hk=>by obtain⟨A',c',e,ho⟩:=hn.row k hk;exact⟨A',c',e,ho.rd,ho.cap⟩⟩
theorem MkII.len (h:MkII w0 w A n c xss):xss.length=n:=h.rd.len
theorem MkII.empty (h:Below w0.heap.size w0 w):MkII w0 (w.alloc (.cells #[] 24)) (some ⟨w.heap.size,0,none⟩) 0 0 []:=⟨[],Mk.lit h #[] (by simp),Nest.nil _ _⟩
theorem MkII.b (h:MkII w0 w A n c xss):Below w0.heap.size w0 w:=by obtain⟨_,h,_⟩:=h;exact h.1
theorem MkII.below (h:MkII w0 w A n c xss) (hb:Below w.heap.size w w'):MkII w0 w' A n c xss:=by
 obtain⟨rows,hm,hn⟩:=h;exact⟨rows,hm.below hb,hn.below hb⟩
theorem MkII.after (h:MkII w1 w A n c xss) (hb:Below w0.heap.size w0 w1):MkII w0 w A n c xss:=by
 obtain⟨rows,hm,hn⟩:=h;exact⟨rows,hm.after hb,hn.base hb.size⟩
theorem MkII.at_ (h:MkII w0 w A n c xss) {k:Nat} (hk:k<n):∃ g,A=some ⟨g,0,none⟩ ∧ ∃ (hx:k<xss.length) (A':Option Addr) (c':Nat),
 w.cell? ⟨g,k,none⟩=some (.slice A' xss[k].length c')∧Mk w0 w 2 A' xss[k].length c' (ints xss[k]):=by
 have hlen:=h.len
 obtain⟨rows,hm,hn⟩:=h
 have hx:k<xss.length:=by omega
 obtain⟨A',c',e,ho⟩:=hn.row k hx
 rcases hm.2.form with ⟨_,h0⟩ | ⟨g,rfl,hB,hgl⟩
 ·omega
 obtain⟨u,hu,hc⟩:=hm.2.cell_ hk
 rw[e]at hu
 obtain rfl:=Option.some.inj hu
 exact⟨g,rfl,hx,A',c',hc,hm.1,ho⟩
theorem vw {ops:Array Oper} {rest:List Oper} {o:Oper} {a:Act} {Q:Exit→Act→World→Prop} (w0 wr w1:World)
 (hgd:o.guard=none) (s x:Operand) (ho:o.op=.call { callee:=.builtin .append,args:=#[s,x],argTypes:=#[32,32] })
 (A:Option Addr) (n c:Nat) (xss:List (List Int)) (A1:Option Addr) (m c1:Nat) (xs:List Int) (hM:MkII w0 wr A n c xss) (hr:Mk wr w1 2 A1 m c1 (ints xs)) (hn:n≤1099511627776)
 (hs:a.eval s=.slice A n c) (hx:a.eval x=.slice (some ⟨w1.heap.size,0,none⟩) 1 1)
 (h:∀ A' c' w',MkII w0 w' A' (n+1) c' (xss++[xs])→wpList Tryz.prog ops Q rest (a.put o.dst (.slice A' (n+1) c')) w') :
 wpList Tryz.prog ops Q (o::rest) a (w1.alloc (.cells #[.slice A1 m c1] 24)):=by
 obtain⟨rows,hm,hnest⟩:=hM
 have hm1:=hm.below hr.1
 have hn1:=hnest.snoc hr hm.1.size
 refine yt w0 w1 32 24 (.slice none 0 0) 24 Tryz.underlying32 zy rfl (by omega) hgd s x ho A n c rows (.slice A1 m c1) hm1 hn rfl hs hx ?_
 intro A' c' w' hM' hg _
 exact h A' c' w' ⟨_,hM',hn1.grown hm1.2 (by decide) hg⟩
end
def inR (n lo hi:Int):Bool:=decide (lo≤n) && decide (n≤hi)
set_option maxHeartbeats 400000 in
set_option maxRecDepth 8000 in
theorem ye7 (n lo hi:Int) (w:World) :
 Calls Tryz.prog 152 #[.int .i64 n,.int .i64 lo,.int .i64 hi] w fun e w'=>e=.returned (.bool (inR n lo hi))∧w=w':=by
 by_cases h:lo≤n
 ·go_enter Tryz.func152,Tryz.ntmps152
  go_wp2
  go_ret
  exact⟨yJ (by simp[inR,h]),rfl⟩
 ·go_enter Tryz.func152,Tryz.ntmps152
  go_wp2
  go_ret
  exact⟨yJ (by simp[inR];omega),rfl⟩
def isP (p:Int):Bool:=(p == 3) || (p == 5) || (p == 7) || (p == 11) || (p == 13)
set_option maxHeartbeats 400000 in
set_option maxRecDepth 8000 in
theorem ydw (p:Int) (w:World) :
 Calls Tryz.prog 131 #[.int .i64 p] w fun e w'=>e=.returned (.bool (isP p))∧w=w':=by
 go_enter Tryz.func131,Tryz.ntmps131
 go_wp2
 all_goals go_ret
 all_goals exact⟨yJ (by simp[isP, *]),rfl⟩
theorem um {b:Bool} (p:Int) (w:World) (h:isP p=b) :
 Calls Tryz.prog 131 #[.int .i64 p] w fun e w'=>e=.returned (.bool b)∧w=w':=h▸ydw p w
def nums (p:Int) (xs:List Int):Bool:=xs.all fun x=>inR x 0 (p-1)
theorem yco (p:Int) (xs:List Int) (k:Nat) (h:k<xs.length) (ht:nums p (xs.take k)=true) (hi:inR xs[k] 0 (p-1)=true):nums p (xs.take (k+1))=true:=by
 unfold nums at *
 rw[List.take_succ_eq_append_getElem h,List.all_append,ht]
 simp[hi]
theorem ycm (p:Int) (xs:List Int) (k:Nat) (h:k<xs.length) (hi:inR xs[k] 0 (p-1)=false):nums p xs=false:=by
 unfold nums
 rw[List.all_eq_false]
 exact⟨xs[k],List.getElem_mem h,by simp[hi]⟩
set_option maxHeartbeats 400000 in
set_option maxRecDepth 8000 in
theorem yfp (p:Int) (A:Option Addr) (n c:Nat) (xs:List Int) (w:World) (hp:0<p) (hp2:p≤100) (hn:n≤1099511627776) (ha:Rd w A n (ints xs)) :
 Calls Tryz.prog 132 #[.int .i64 p,.slice A n c] w fun e w'=>e=.returned (.bool (nums p xs))∧w=w':=by
 have hxl:xs.length=n:=by have:=ha.1;rwa [yD]at this
 have Hx:=Lib.hid hxl;clear hxl
 go_enter Tryz.func132,Tryz.ntmps132
 go_wp2
 go_loop [9] (fun i=>∃ k:Nat,k≤n∧i=.int .i64 k∧nums p (xs.take k)=true) (fun i=>n-(intOf i).toNat)
 case atStart=>exact⟨0,by omega,rfl,by simp[nums]⟩
 case round=>
  obtain⟨k,hk,rfl,ht⟩:=hrel
  have H:=Lib.hid ht;clear ht
  by_cases hlt:k<n
  ·obtain⟨g,o,rfl,hx,hcx⟩:=ha.int hlt
   clear ha
   cases hi:inR xs[k] 0 (p-1)
   all_goals
    have HI:=Lib.hid hi;clear hi
    go_wp2_with (go_at_call 152;refine (ye7 _ _ _ _).mono ?_;rintro e w' ⟨rfl,rfl⟩;rw[HI.out])
   ·go_ret
    exact⟨yJ (ycm p xs k hx HI.out).symm,rfl⟩
   ·go_round
    case rel=>exact⟨k+1,by omega,by go_num,yco p xs k hx H.out HI.out⟩
    case measure=>simp[intOf];omega
  ·go_wp2
   go_ret
   have:=H.out
   rw[List.take_of_length_le (by rw[Hx.out];omega)]at this
   exact⟨yJ this.symm,rfl⟩
theorem jV {p:Int} (h:isP p=true):0<p∧p≤13:=by
 simp[isP]at h;omega
end Go.Proofs.YtaiegpggccdgoaaGreat
namespace Go.Proofs.YtaiegpggccdgoaaGreat
def pc:Nat→Nat
 | 0=>0
 | n+1=>(n+1)%2+pc ((n+1) / 2)
def bit (a i:Nat):Nat:=a / 2^i%2
def yc4 (a b:Nat):Nat→Nat
 | 0=>0
 | i+1=>yc4 a b i+(if bit b i=1 then pc (a / 2^(i+1)) else 0)
def ya4 (p:Int) (sq:List Int) (a b:Nat):Nat→Int
 | 0=>1
 | i+1=>if bit b i=1∧bit a i=1 then (ya4 p sq a b i*sq.getD i 0)%p else ya4 p sq a b i
def NumsL (p:Int) (xs:List Int):Prop:=∀ x∈xs,0≤x∧x<p
theorem NumsL.getD {p:Int} {xs:List Int} (h:NumsL p xs) (hp:0<p) (i:Nat):0≤xs.getD i 0∧xs.getD i 0<p:=by
 by_cases hi:i<xs.length
 ·rw[List.getD_eq_getElem?_getD,List.getElem?_eq_getElem hi];exact h _ (List.getElem_mem hi)
 ·rw[List.getD_eq_getElem?_getD,List.getElem?_eq_none (by omega)];exact⟨Int.le_refl _,hp⟩
theorem NumsL.set {p:Int} {xs:List Int} (h:NumsL p xs) (i:Nat) {v:Int} (hv:0≤v∧v<p):NumsL p (xs.set i v):=fun x hx=>by
 rcases List.mem_or_eq_of_mem_set hx with h1 | h1
 ·exact h x h1
 ·exact h1▸hv
theorem NumsL.replicate {p:Int} (hp:0<p) (n:Nat):NumsL p (List.replicate n 0):=fun x hx=>by
 rw[(List.mem_replicate.1 hx).2];exact⟨Int.le_refl _,hp⟩
end Go.Proofs.YtaiegpggccdgoaaGreat
namespace Go.Proofs.YtaiegpggccdgoaaGreat
open Go.RowKit
theorem ycl (p n:Int) (hp:0<p) (hp2:p≤13):(wrap64 (n.tmod p+p)).tmod p=n%p:=by
 have h1:n.tmod p<p:=Int.tmod_lt_of_pos n hp
 have h2:-p<n.tmod p:=by
  have:=Int.lt_tmod_of_pos n hp
  omega
 have h3:n%p=(n.tmod p+p)%p:=by
  rw[Int.add_emod_right]
  have:=Int.mul_tdiv_add_tmod n p
  conv=>lhs;rw[← this]
  rw[Int.add_comm,Int.add_mul_emod_self_left]
 have h4:wrap64 (n.tmod p+p)=n.tmod p+p:=by unfold wrap64;omega
 rw[h3,h4,Int.tmod_eq_emod_of_nonneg (by omega)]
set_option maxHeartbeats 400000 in
set_option maxRecDepth 8000 in
theorem zN (p n:Int) (w:World) (hp:0<p) (hp2:p≤13) (_h1:-1000000000000≤n) (_h2:n≤1000000000000) :
 Calls Tryz.prog 86 #[.int .i64 p,.int .i64 n] w fun e w'=>e=.returned (.int .i64 (n%p))∧w=w':=by
 go_enter Tryz.func86,Tryz.ntmps86
 go_wp2
 go_ret
 exact⟨xu (ycl p n hp hp2),rfl⟩
theorem ybe (a p:Int) (hp:0<p):0≤a%p∧a%p<p:=⟨Int.emod_nonneg _ (by omega),Int.emod_lt_of_pos _ hp⟩
theorem uM {a b m n:Int} (ha:0≤a) (ha2:a≤m) (hb:0≤b) (hb2:b≤n):0≤a*b∧a*b≤m*n:=
 ⟨Int.mul_nonneg ha hb,Int.mul_le_mul ha2 hb2 hb (by omega)⟩
theorem yiG (n:Int) (h1:-1000000000000≤n) (h2:n≤1000000000000):wrap64 n=n:=by unfold wrap64;omega
def powF (p a:Int):Nat→Int
 | 0=>1
 | k+1=>powF p a k*a%p
theorem ycC (p a:Int) (hp:2≤p):∀ k,0≤powF p a k∧powF p a k<p:=by
 intro k
 cases k with
 | zero=>simp only[powF];omega
 | succ k=>exact ybe _ _ (by omega)
set_option maxHeartbeats 800000 in
set_option maxRecDepth 8000 in
theorem ygJ (p a:Int) (k:Nat) (w:World) (hp:2≤p) (hp2:p≤13) (h1:0≤a) (h2:a<p) (hk:k≤1000000) :
 Calls Tryz.prog 160 #[.int .i64 p,.int .i64 a,.int .i64 k] w fun e w'=>e=.returned (.int .i64 (powF p a k))∧w=w':=by
 go_enter Tryz.func160,Tryz.ntmps160
 go_wp2
 go_loop [7,9] (fun o i=>∃ j:Nat,j≤k∧i=.int .i64 j∧o=.int .i64 (powF p a j)) (fun _ i=>k-(intOf i).toNat)
 case atStart=>exact⟨0,by omega,rfl,rfl⟩
 case round=>
  obtain⟨j,hj,rfl,rfl⟩:=hrel
  by_cases hlt:j<k
  ·obtain⟨b1,b2⟩:=ycC p a hp j
   obtain⟨m1,m2⟩:=uM b1 (show powF p a j≤13 by omega) h1 (show a≤13 by omega)
   go_wp2_with (go_at_call 86;refine (zN _ (powF p a j*a) _ (by omega) hp2 (by omega) (by omega)).mono ?_;rintro e w' ⟨rfl,rfl⟩)
   go_round
   case rel=>exact⟨j+1,by omega,by go_num,rfl⟩
   case measure=>simp[intOf];omega
  ·go_wp2
   go_ret
   obtain rfl:j=k:=by omega
   exact⟨rfl,rfl⟩
def invF (p a:Int):Int:=powF p a (p-2).toNat
set_option maxHeartbeats 400000 in
set_option maxRecDepth 8000 in
theorem yff (p a:Int) (w:World) (hp:2≤p) (hp2:p≤13) (h1:0≤a) (h2:a<p) :
 Calls Tryz.prog 151 #[.int .i64 p,.int .i64 a] w fun e w'=>e=.returned (.int .i64 (invF p a))∧w=w':=by
 have hk:=ygJ p a (p-2).toNat w hp hp2 h1 h2 (by omega)
 rw[show (((p-2).toNat:Nat):Int)=p-2 by omega]at hk
 go_enter Tryz.func151,Tryz.ntmps151
 go_wp2_with (go_at_call 160;refine hk.mono ?_;rintro e w' ⟨rfl,rfl⟩)
 go_ret
 exact⟨rfl,rfl⟩
def yl (p:Int) (xs:List Int) (k:Int):List Int:=xs.map fun x=>x*k%p
theorem zR (p:Int) (xs:List Int) (k:Int):(yl p xs k).length=xs.length:=by simp[yl]
theorem ycS (p:Int) (xs:List Int) (k:Int) (i:Nat) (h:i<xs.length):(yl p xs k).take (i+1)=(yl p xs k).take i++[xs[i]*k%p]:=by
 rw[List.take_succ_eq_append_getElem (by rw[zR];exact h)];simp[yl]
set_option maxHeartbeats 800000 in
set_option maxRecDepth 8000 in
theorem yap (p:Int) (A:Option Addr) (n c:Nat) (f:Int) (xs:List Int) (w:World) (hp:2≤p) (hp2:p≤13) (hn:n≤65536) (ha:Rd w A n (ints xs)) (hx:NumsL p xs) (hf1:-1000≤f) (hf2:f≤1000) :
 Calls Tryz.prog 53 #[.int .i64 p,.slice A n c,.int .i64 f] w fun e w'=>∃ A' c',e=.returned (.slice A' n c')∧MkI w w' A' n c' (yl p xs f):=by
 have hxl:xs.length=n:=by have:=ha.1;rwa [yD]at this
 have Hx:=Lib.hid hxl;clear hxl
 have hM0:=Mk.lit (E:=2) (Below.refl w.heap.size w) #[] (by simp)
 go_enter Tryz.func53,Tryz.ntmps53
 go_wp2
 go_loopw [7,9,13] (fun out _ i wr=>∃ (k:Nat) (A':Option Addr) (c':Nat),k≤n∧i=.int .i64 k∧out=.slice A' k c'∧MkI w wr A' k c' ((yl p xs f).take k)) (fun _ _ i _=>n-(intOf i).toNat)
 case atStart=>exact⟨0,_,_,by omega,rfl,rfl,by simpa [MkI,ints] using hM0⟩
 case round=>
  obtain⟨k,A',c',hk,rfl,rfl,hM⟩:=hrel
  clear hM0
  by_cases hlt:k<n
  ·obtain⟨g,o,rfl,hxk,hcx⟩:=ha.int hlt
   have hc0:wr.cell? ⟨g,o+k,none⟩=some (.int .i64 xs[k]):=(hM.1.cell (World.block_lt_of_cell? _ _ hcx)).trans hcx
   obtain⟨x1,x2⟩:=hx _ (List.getElem_mem hxk)
   have HM:=Lib.hid hM
   have HB:-13000≤xs[k]*f∧xs[k]*f≤13000:=by
    have:=Int.mul_le_mul_of_nonneg_left hf2 x1
    have:=Int.mul_le_mul_of_nonneg_left hf1 x1
    omega
   clear ha hM hcx
   go_wp2_with (first
    | (go_at_call 86;refine (zN _ (xs[k]*f) _ (by omega) hp2 (by omega) (by omega)).mono ?_;rintro e w' ⟨rfl,rfl⟩)
    | (at_builtin;refine yt w _ 24 2 _ _ Tryz.underlying24 yo rfl (by omega) rfl _ _ rfl A' k c' _ _ HM.out (by omega) rfl rfl rfl ?_;intro A2 c2 w2 hM2 _ _))
   go_roundw
   case rel=>exact⟨k+1,A2,c2,by omega,by go_num,rfl,by rw[ycS p xs f k hxk];simpa [MkI,ints] using hM2⟩
   case measure=>simp[intOf];omega
  ·go_wp2
   go_ret
   obtain rfl:k=n:=by omega
   rw[List.take_of_length_le (by rw[zR,Hx.out];omega)]at hM
   exact⟨_,_,rfl,hM⟩
def ye (n i:Nat):List Int:=(List.replicate n 0).set i 1
def vg (n:Nat):List (List Int):=(List.range n).map (ye n)
theorem yde (n:Nat):(vg n).length=n:=by simp[vg]
theorem vM (n k:Nat) (h:k<(vg n).length):(vg n)[k]=ye n k:=by simp[vg]
theorem zm (n k:Nat):(ye n k).length=n:=by simp[ye]
theorem yin (n k:Nat) (h:k<n):(vg n).take (k+1)=(vg n).take k++[ye n k]:=by
 rw[List.take_succ_eq_append_getElem (by rw[yde];exact h),vM]
set_option maxHeartbeats 400000 in
set_option maxRecDepth 8000 in
theorem ul (n:Nat) (w:World) (hn:n≤65536) :
 Calls Tryz.prog 107 #[.int .i64 n] w fun e w'=>∃ A c,e=.returned (.slice A n c)∧MkII w w' A n c (vg n):=by
 have hmk:=xE (P:=Tryz.prog) 24 2 Tryz.underlying24 yo n (by omega)
 have hM0:MkII w (w.alloc (.cells #[] 24)) (some ⟨w.heap.size,0,none⟩) 0 0 []:=MkII.empty zG
 go_enter Tryz.func107,Tryz.ntmps107
 go_wp2
 go_loopw [3,8] (fun out i wr=>∃ (k:Nat) (A:Option Addr) (c:Nat),k≤n∧i=.int .i64 k∧out=.slice A k c∧MkII w wr A k c ((vg n).take k)) (fun _ i _=>n-(intOf i).toNat)
 case atStart=>exact⟨0,_,_,by omega,rfl,rfl,by simpa using hM0⟩
 case round=>
  obtain⟨k,A,c,hk,rfl,rfl,hM⟩:=hrel
  clear hM0
  by_cases hlt:k<n
  ·have hm1:=Mk.made (E:=2) (n:=n) (z:=.int .i64 0) (Below.refl wr.heap.size wr) (by simp only[maxLen];omega)
   rw[xj]at hm1
   obtain⟨u1,hc1⟩:=hm1.2.cellI hlt
   have hf1:=hm1.2.frozen_ k
   have hm2:=(hm1.set k (.int .i64 1)).1
   rw[yN,World.setCell_alloc_at _ _ _ _ _ rfl]at hm2
   have HM:=Lib.hid hM
   have HM2:=Lib.hid hm2
   clear hM hm1 hm2
   go_wp2_with (at_builtin;refine vw w wr _ rfl _ _ rfl A k c _ _ n n _ HM.out HM2.out (by omega) rfl ?_ ?_;(go_simp);intro A' c' w' hM')
   go_roundw
   case rel=>exact⟨k+1,A',c',by omega,by go_num,rfl,by rw[yin n k hlt];exact hM'⟩
   case measure=>simp[intOf];omega
  ·go_wp2
   go_ret
   obtain rfl:k=n:=by omega
   rw[List.take_of_length_le (by rw[yde];omega)]at hM
   exact⟨_,_,rfl,hM⟩
def pw (n:Nat):Nat:=2^n
theorem yq (n:Nat):1≤pw n:=Nat.two_pow_pos n
theorem yz {n k:Nat} (h:n≤k):pw n≤pw k:=Nat.pow_le_pow_right (by omega) h
theorem vd (n:Nat):pw (n+1)=2*pw n:=by unfold pw;rw[Nat.pow_succ];omega
theorem yg1 {n:Nat} (h:n≤30):pw n≤1073741824:=Nat.le_trans (yz h) (by decide)
theorem uV (n:Nat) (h:n≤30):wrap64 (2^n)=(pw n:Int):=by
 have hb:=yg1 h
 have e:(2:Int)^n=(pw n:Int):=by unfold pw;simp
 rw[e]
 unfold wrap64;omega
end Go.Proofs.YtaiegpggccdgoaaGreat
namespace Go.Proofs.YtaiegpggccdgoaaGreat
def tab {α:Type} (n:Nat) (f:Nat→α):List α:=(List.range n).map f
theorem yG {α:Type} (n:Nat) (f:Nat→α):(tab n f).length=n:=by simp[tab]
theorem yQ {α:Type} (n:Nat) (f:Nat→α):tab (n+1) f=tab n f++[f n]:=by simp[tab,List.range_succ]
theorem uR {α:Type} (n:Nat) (f:Nat→α) (i:Nat) (h:i<(tab n f).length):(tab n f)[i]=f i:=by simp[tab]
theorem yC {α:Type} {n:Nat} {f:Nat→α} {i:Nat} (h:i<n) (d:α):(tab n f).getD i d=f i:=by
 rw[List.getD_eq_getElem?_getD,List.getElem?_eq_getElem (by rw[yG];exact h),uR];rfl
theorem uQ {α:Type} {n:Nat} {f g:Nat→α} (h:∀ i,i<n→f i=g i):tab n f=tab n g:=by
 apply List.map_congr_left
 intro i hi
 exact h i (by simpa using hi)
theorem ui {α:Type} {n:Nat} {f:Nat→α} {x:α} (h:x∈tab n f):∃ i,i<n∧x=f i:=by
 obtain⟨i,hi,rfl⟩:=List.mem_map.1 h
 exact⟨i,by simpa using hi,rfl⟩
theorem yU {α:Type} {xs ys:List α} (d:α) (hl:xs.length=ys.length) (h:∀ i,i<xs.length→xs.getD i d=ys.getD i d):xs=ys:=by
 apply List.ext_getElem hl
 intro i h1 h2
 have:=h i h1
 rw[List.getD_eq_getElem?_getD,List.getD_eq_getElem?_getD,List.getElem?_eq_getElem h1,List.getElem?_eq_getElem h2]at this
 exact this
theorem yeO {α:Type} {n:Nat} (d:α) {xs:List α} (hl:xs.length=n):xs=tab n fun i=>xs.getD i d:=by
 apply yU d (by rw[yG,hl])
 intro i hi
 rw[yC (by omega)]
theorem yc {α:Type} {xs:List α} {i:Nat} (d:α) (h:i<xs.length):xs.getD i d=xs[i]:=by
 rw[List.getD_eq_getElem?_getD,List.getElem?_eq_getElem h];rfl
theorem vR {α:Type} {xs:List α} {i:Nat} (d:α) (h:xs.length≤i):xs.getD i d=d:=by
 rw[List.getD_eq_getElem?_getD,List.getElem?_eq_none h];rfl
theorem zv {α:Type} (xs:List α) (i j:Nat) (v d:α):(xs.set i v).getD j d=if i=j∧i<xs.length then v else xs.getD j d:=by
 rw[List.getD_eq_getElem?_getD,List.getD_eq_getElem?_getD,List.getElem?_set]
 by_cases h1:i=j
 ·subst h1
  by_cases h2:i<xs.length
  ·simp[h2]
  ·simp[h2]
 ·simp[h1]
theorem vQ {α:Type} {xs:List α} {i:Nat} (d:α) (h:i<xs.length):xs.getD i d∈xs:=by
 rw[yc d h];exact List.getElem_mem h
def ya:Nat→(Nat→Int)→Int
 | 0,_=>0
 | n+1,f=>ya n f+f n
theorem y8 (n:Nat) (f:Nat→Int):ya (n+1) f=ya n f+f n:=rfl
theorem yw {n:Nat} {f g:Nat→Int} (h:∀ i,i<n→f i=g i):ya n f=ya n g:=by
 induction n with
 | zero=>rfl
 | succ n ih=>rw[y8,y8,ih (fun i hi=>h i (by omega)),h n (by omega)]
theorem yW (p:Int) {n:Nat} {f g:Nat→Int} (h:∀ i,i<n→f i%p=g i%p):ya n f%p=ya n g%p:=by
 induction n with
 | zero=>rfl
 | succ n ih=>
  rw[y8,y8,Int.add_emod,ih (fun i hi=>h i (by omega)),h n (by omega),← Int.add_emod]
def dotL (p:Int) (a b:List Int):Int:=(ya a.length fun i=>a.getD i 0*b.getD i 0)%p
def yp (p:Int) (a b:List Int) (k:Int):List Int:=tab a.length fun i=>(a.getD i 0+k*b.getD i 0)%p
theorem yP (p:Int) (a b:List Int) (k:Int):(yp p a b k).length=a.length:=yG _ _
theorem xK {p:Int} (hp:0<p) (a b:List Int) (k:Int):NumsL p (yp p a b k):=fun x hx=>by
 obtain⟨i,_,rfl⟩:=ui hx
 exact⟨Int.emod_nonneg _ (by omega),Int.emod_lt_of_pos _ hp⟩
theorem zw {p:Int} {a:List Int} (b:List Int) (k:Int) {i:Nat} (h:i<a.length):(yp p a b k).getD i 0=(a.getD i 0+k*b.getD i 0)%p:=yC h 0
theorem ygF {p:Int} (a b:List Int) (h:NumsL p a):yp p a b 0=a:=by
 apply yU 0 (yP _ _ _ _)
 intro i hi
 rw[yP]at hi
 rw[zw _ _ hi,Int.zero_mul,Int.add_zero]
 obtain⟨h1,h2⟩:=h _ (vQ 0 hi)
 exact Int.emod_eq_of_lt h1 h2
theorem z4 {p:Int} {a:List Int} (k:Int) {i:Nat} (h:i<a.length):(yl p a k).getD i 0=(a.getD i 0*k)%p:=by
 rw[yc 0 (by rw[zR];exact h),yc 0 h];simp[yl]
theorem zU {p:Int} (hp:0<p) (a:List Int) (k:Int):NumsL p (yl p a k):=fun x hx=>by
 obtain⟨i,_,rfl⟩:=List.mem_map.1 hx
 exact⟨Int.emod_nonneg _ (by omega),Int.emod_lt_of_pos _ hp⟩
theorem yfc {p:Int} (hp:2≤p) (a:Int):0≤invF p a∧invF p a<p:=ycC p a hp _
def ent (m:List (List Int)) (i k:Nat):Int:=(m.getD i []).getD k 0
def Tab (p:Int) (n:Nat) (m:List (List Int)):Prop:=∀ x∈m,x.length=n∧NumsL p x
theorem Tab.nil (p:Int) (n:Nat):Tab p n []:=fun x hx=>absurd hx (by simp)
theorem Tab.row {p:Int} {n:Nat} {m:List (List Int)} (h:Tab p n m) {i:Nat} (hi:i<m.length):(m.getD i []).length=n∧NumsL p (m.getD i []):=h _ (vQ [] hi)
theorem Tab.ent {p:Int} {n:Nat} {m:List (List Int)} (h:Tab p n m) (hp:0<p) (i k:Nat):0≤ent m i k∧ent m i k<p:=by
 unfold Proofs.YtaiegpggccdgoaaGreat.ent
 by_cases hi:i<m.length
 ·exact (h.row hi).2.getD hp k
 ·rw[vR [] (by omega)];simp[hp]
theorem Tab.set {p:Int} {n:Nat} {m:List (List Int)} (h:Tab p n m) (i:Nat) {x:List Int} (hx:x.length=n∧NumsL p x):Tab p n (m.set i x):=fun y hy=>by
 rcases List.mem_or_eq_of_mem_set hy with h1 | h1
 ·exact h y h1
 ·exact h1▸hx
theorem Tab.append {p:Int} {n:Nat} {m m':List (List Int)} (h:Tab p n m) (h':Tab p n m'):Tab p n (m++m'):=fun y hy=>by
 rcases List.mem_append.1 hy with h1 | h1
 ·exact h y h1
 ·exact h' y h1
theorem Tab.take {p:Int} {n:Nat} {m:List (List Int)} (h:Tab p n m) (k:Nat):Tab p n (m.take k):=fun y hy=>h y (List.mem_of_mem_take hy)
theorem Tab.tab {p:Int} {n k:Nat} {f:Nat→List Int} (h:∀ i,i<k→(f i).length=n∧NumsL p (f i)):Tab p n (tab k f):=fun y hy=>by
 obtain⟨i,hi,rfl⟩:=ui hy
 exact h i hi
theorem vh {p:Int} (hp:2≤p) (n i:Nat):NumsL p (ye n i):=(NumsL.replicate (by omega) n).set i ⟨by omega,by omega⟩
def zt (m:List (List Int)):List (List Int):=tab (m.getD 0 []).length fun k=>tab m.length fun i=>ent m i k
theorem yc8 {p:Int} {n:Nat} {m:List (List Int)} (h:Tab p n m) (hm:0<m.length):(zt m).length=n:=by
 unfold zt;rw[yG,(h.row hm).1]
theorem NumsL.tab {p:Int} {n:Nat} {f:Nat→Int} (h:∀ i,i<n→0≤f i∧f i<p):NumsL p (tab n f):=fun y hy=>by
 obtain⟨i,hi,rfl⟩:=ui hy
 exact h i hi
theorem yau {p:Int} {n:Nat} {m:List (List Int)} (hp:0<p) (h:Tab p n m):Tab p m.length (zt m):=
 Tab.tab fun i _=>⟨yG _ _,NumsL.tab fun j _=>h.ent hp j i⟩
def yn:List Int→Nat
 | []=>0
 | x::r=>if x=0 then yn r+1 else 0
theorem qA (v:List Int):yn v≤v.length:=by
 induction v with
 | nil=>simp[yn]
 | cons x r ih=>simp only[yn,List.length_cons];split<;>omega
theorem uL (v:List Int):∀ i,i<yn v→v.getD i 0=0:=by
 induction v with
 | nil=>intro i hi;simp[yn]at hi
 | cons x r ih=>
  intro i hi
  simp only[yn]at hi
  split at hi
  ·rename_i hx
   cases i with
   | zero=>simpa using hx
   | succ i=>simpa using ih i (by omega)
  ·omega
theorem qz (v:List Int) (h:yn v<v.length):v.getD (yn v) 0≠0:=by
 induction v with
 | nil=>simp at h
 | cons x r ih=>
  simp only[yn]at h ⊢
  split
  ·rename_i hx
   rw[if_pos hx]at h
   simpa using ih (by simpa using h)
  ·rename_i hx;simpa using hx
theorem j8 (v:List Int) (i:Nat) (h1:∀ j,j<i→v.getD j 0=0) (h2:i=v.length∨(i<v.length∧v.getD i 0≠0)):yn v=i:=by
 rcases Nat.lt_trichotomy (yn v) i with h | h | h
 ·have hl:yn v<v.length:=by rcases h2 with h2 | h2<;>omega
  exact absurd (h1 _ h) (qz v hl)
 ·exact h
 ·rcases h2 with h2 | h2
  ·have:=qA v;omega
  ·exact absurd (uL v i h) h2.2
def piv (m:List (List Int)) (k:Nat):Nat→Nat→Nat
 | 0,i=>i
 | f+1,i=>if ent m i k=0 then piv m k f (i+1) else i
theorem ygC (m:List (List Int)) (k:Nat):∀ f i,i≤piv m k f i∧piv m k f i≤i+f:=by
 intro f
 induction f with
 | zero=>intro i;simp[piv]
 | succ f ih=>
  intro i
  simp only[piv]
  split
  ·have:=ih (i+1);omega
  ·omega
theorem ygB (m:List (List Int)) (k:Nat):∀ f i r,i≤r→r<piv m k f i→ent m r k=0:=by
 intro f
 induction f with
 | zero=>intro i r h1 h2;simp[piv]at h2;omega
 | succ f ih=>
  intro i r h1 h2
  simp only[piv]at h2
  split at h2
  ·rename_i h0
   by_cases hr:r=i
   ·exact hr▸h0
   ·exact ih (i+1) r (by omega) h2
  ·omega
theorem ycz (m:List (List Int)) (k:Nat):∀ f i,piv m k f i<i+f→ent m (piv m k f i) k≠0:=by
 intro f
 induction f with
 | zero=>intro i h;simp[piv]at h
 | succ f ih=>
  intro i h
  simp only[piv]at h ⊢
  split
  ·rename_i h0
   rw[if_pos h0]at h
   exact ih (i+1) (by omega)
  ·assumption
def zr (m:List (List Int)) (i j:Nat):List (List Int):=(m.set i (m.getD j [])).set j (m.getD i [])
theorem yc3 (m:List (List Int)) (i j:Nat):(zr m i j).length=m.length:=by simp[zr]
def yS (p:Int) (m:List (List Int)) (d k j:Nat):List (List Int):=
 tab m.length fun r=>if r<j∧r≠d then yp p (m.getD r []) (m.getD d []) (-(ent m r k)) else m.getD r []
theorem vl (p:Int) (m:List (List Int)) (d k j:Nat):(yS p m d k j).length=m.length:=yG _ _
theorem yea (p:Int) (m:List (List Int)) (d k:Nat):yS p m d k 0=m:=by
 refine Eq.trans (uQ fun i _=>?_) (yeO (n:=m.length) [] rfl).symm
 rw[if_neg (by omega)]
theorem uv {p:Int} {m:List (List Int)} {d k j r:Nat} (h:r<m.length):(yS p m d k j).getD r []=if r<j∧r≠d then yp p (m.getD r []) (m.getD d []) (-(ent m r k)) else m.getD r []:=yC h []
theorem yd9 (p:Int) (m:List (List Int)) (d k j:Nat) (hj:j<m.length) (h:j≠d):yS p m d k (j+1)=(yS p m d k j).set j (yp p (m.getD j []) (m.getD d []) (-(ent m j k))):=by
 apply yU [] (by rw[List.length_set,vl,vl])
 intro r hr
 rw[vl]at hr
 rw[zv,uv hr,uv hr,vl]
 by_cases h1:j=r
 ·subst h1
  rw[if_pos ⟨by omega,h⟩,if_pos ⟨rfl,hj⟩]
 ·rw[if_neg (c:=j=r∧_) (fun hh=>h1 hh.1)]
  by_cases h2:r<j
  ·by_cases h3:r≠d
   ·rw[if_pos ⟨by omega,h3⟩,if_pos ⟨h2,h3⟩]
   ·rw[if_neg (fun hh=>h3 hh.2),if_neg (fun hh=>h3 hh.2)]
  ·rw[if_neg (by omega),if_neg (by omega)]
theorem yd8 (p:Int) (m:List (List Int)) (d k:Nat):yS p m d k (d+1)=yS p m d k d:=by
 refine uQ fun r _=>?_
 by_cases h:r<d
 ·rw[if_pos ⟨by omega,by omega⟩,if_pos ⟨h,by omega⟩]
 ·rw[if_neg (by omega),if_neg (by omega)]
theorem yaV {p:Int} {n:Nat} {m:List (List Int)} (hp:0<p) (h:Tab p n m) (d k j:Nat):Tab p n (yS p m d k j):=by
 refine Tab.tab fun r hr=>?_
 split
 ·exact⟨by rw[yP,(h.row hr).1],xK hp _ _ _⟩
 ·exact h.row hr
def yR (m:List (List Int)) (k d:Nat):Nat:=piv m k (m.length-d) d
def yV (p:Int) (m:List (List Int)) (k d:Nat):List (List Int):=
 (zr m d (yR m k d)).set d (yl p (m.getD (yR m k d) []) (invF p (ent m (yR m k d) k)))
def zk (p:Int) (k:Nat) (s:List (List Int) × Nat):List (List Int) × Nat:=
 if yR s.1 k s.2=s.1.length then s else (yS p (yV p s.1 k s.2) s.2 k s.1.length,s.2+1)
def yu (p:Int) (m:List (List Int)):Nat→List (List Int) × Nat
 | 0=>(m,0)
 | k+1=>zk p k (yu p m k)
def yf (p:Int) (m:List (List Int)):List (List Int):=
 (yu p m (m.getD 0 []).length).1.take (yu p m (m.getD 0 []).length).2
theorem ue (p:Int) (m:List (List Int)) (k d:Nat):(yV p m k d).length=m.length:=by simp[yV,zr]
theorem qK (m:List (List Int)) (k d:Nat) (h:d≤m.length):d≤yR m k d∧yR m k d≤m.length:=by
 have:=ygC m k (m.length-d) d
 unfold yR;omega
theorem yhM {p:Int} {n:Nat} {m:List (List Int)} (h:Tab p n m) {i j:Nat} (hi:i<m.length) (hj:j<m.length):Tab p n (zr m i j):=(h.set i (h.row hj)).set j (h.row hi)
theorem qR {p:Int} {n:Nat} {m:List (List Int)} (hp:0<p) (h:Tab p n m) {k d:Nat} (hd:d<m.length) (hv:yR m k d<m.length):Tab p n (yV p m k d):=
 (yhM h hd hv).set d ⟨by rw[zR,(h.row hv).1],zU hp _ _⟩
theorem yhA {p:Int} {n:Nat} (hp:0<p) (k:Nat) (s:List (List Int) × Nat) (h1:Tab p n s.1) (h2:s.2≤s.1.length):Tab p n (zk p k s).1∧(zk p k s).1.length=s.1.length∧(zk p k s).2≤s.1.length:=by
 unfold zk
 split
 ·exact⟨h1,rfl,h2⟩
 ·rename_i hne
  have hb:=qK s.1 k s.2 h2
  exact⟨yaV hp (qR hp h1 (by omega) (by omega)) _ _ _,by rw[vl,ue],by simp only;omega⟩
theorem vy {p:Int} {n:Nat} (hp:0<p) (m:List (List Int)) (h:Tab p n m) (k:Nat):Tab p n (yu p m k).1∧(yu p m k).1.length=m.length∧(yu p m k).2≤m.length:=by
 induction k with
 | zero=>exact⟨h,rfl,Nat.zero_le _⟩
 | succ k ih=>
  have:=yhA hp k (yu p m k) ih.1 (by rw[ih.2.1];exact ih.2.2)
  rw[ih.2.1]at this
  exact this
theorem vO {p:Int} {n:Nat} (hp:0<p) (m:List (List Int)) (h:Tab p n m):Tab p n (yf p m):=(vy hp m h _).1.take _
theorem yaO {p:Int} {n:Nat} (hp:0<p) (m:List (List Int)) (h:Tab p n m):(yf p m).length=(yu p m (m.getD 0 []).length).2∧(yf p m).length≤m.length:=by
 have:=vy hp m h (m.getD 0 []).length
 unfold yf
 rw[List.length_take,this.2.1]
 omega
theorem yhy (p:Int) (k:Nat) (s:List (List Int) × Nat) (h:s.2=s.1.length):zk p k s=s:=by
 unfold zk yR
 rw[h,Nat.sub_self]
 simp[piv]
theorem ydF (p:Int) (m:List (List Int)) (k j:Nat) (hkj:k≤j) (h:(yu p m k).2=(yu p m k).1.length):yu p m j=yu p m k:=by
 induction j with
 | zero=>obtain rfl:k=0:=by omega
         rfl
 | succ j ih=>
  by_cases hk:k=j+1
  ·rw[hk]
  ·have:=ih (by omega)
   show zk p j (yu p m j)=_
   rw[this,yhy _ _ _ h]
end Go.Proofs.YtaiegpggccdgoaaGreat
namespace Go.Proofs.YtaiegpggccdgoaaGreat
open Go.RowKit
def vF (p:Nat):Bool:=(List.range p).all fun a=>a == 0 || ((0<invF p a:Bool) && (invF p a<p:Bool) && (List.range p).all fun b=>decide ((a*b:Int)%p=1) == decide ((b:Int)=invF p a))
theorem yfd:vF 3=true∧vF 5=true∧vF 7=true∧vF 11=true∧vF 13=true:=by decide +kernel
theorem yfe {p:Int} (h:isP p=true):vF p.toNat=true:=by
 obtain⟨a,b,c,d,e⟩:=yfd
 simp only[isP,Bool.or_eq_true,beq_iff_eq]at h
 rcases h with (((rfl | rfl) | rfl) | rfl) | rfl
 ·exact a
 ·exact b
 ·exact c
 ·exact d
 ·exact e
theorem yk {p:Int} (h:isP p=true):3≤p∧p≤13:=by
 simp[isP]at h;omega
theorem vU {p a:Int} (h:isP p=true) (h1:0<a) (h2:a<p):0<invF p a∧invF p a<p ∧ ∀ b:Int,0≤b→b<p→((a*b%p=1)↔b=invF p a):=by
 have hp:=yk h
 have ht:=yfe h
 simp only[vF,List.all_eq_true,List.mem_range]at ht
 have ha:=ht a.toNat (by omega)
 rw[show ((p.toNat:Nat):Int)=p by omega,show ((a.toNat:Nat):Int)=a by omega]at ha
 simp only[Bool.or_eq_true,beq_iff_eq,Bool.and_eq_true,decide_eq_true_eq,List.all_eq_true,List.mem_range]at ha
 rcases ha with ha | ⟨⟨ha,hb⟩,hc⟩
 ·omega
 ·refine⟨ha,hb,fun b hb1 hb2=>?_⟩
  have:=hc b.toNat (by omega)
  rw[show ((b.toNat:Nat):Int)=b by omega]at this
  simpa using this
theorem ygq {a b:Int} (h:¬ a=b):(a != b)=true:=by simp[h]
theorem ygr {a b:Int} (h:a=b):(a != b)=false:=by simp[h]
set_option maxHeartbeats 800000 in
set_option maxRecDepth 8000 in
theorem yfy (p a:Int) (w:World) (h:isP p=true) (h1:0<a) (h2:a<p) :
 Calls Tryz.prog 163 #[.int .i64 p,.int .i64 a] w fun e w'=>e=.returned (.int .i64 (invF p a))∧w=w':=by
 obtain⟨hp,hp2⟩:=yk h
 obtain⟨i1,i2,i3⟩:=vU h h1 h2
 clear h
 go_enter Tryz.func163,Tryz.ntmps163
 go_wp2
 go_loop [5] (fun o=>∃ b:Int,o=.int .i64 b∧1≤b∧b≤invF p a) (fun o=>p.toNat-(intOf o).toNat)
 case atStart=>exact⟨1,rfl,by omega,by omega⟩
 case round=>
  obtain⟨b,rfl,hb1,hb2⟩:=hrel
  obtain⟨m1,m2⟩:=uM (show 0≤a by omega) (show a≤13 by omega) (show 0≤b by omega) (show b≤13 by omega)
  by_cases hlt:b=invF p a
  ·have hne:=ygr ((i3 b (by omega) (by omega)).2 hlt)
   have HL:=Lib.hid hlt
   clear hlt i3
   go_wp2
   go_ret
   exact⟨xu HL.out,rfl⟩
  ·have hne:=ygq (fun hh=>hlt ((i3 b (by omega) (by omega)).1 hh))
   clear i3
   go_wp2
   go_round
   case rel=>exact⟨b+1,by go_num,by omega,by omega⟩
   case measure=>simp[intOf];omega
end Go.Proofs.YtaiegpggccdgoaaGreat
namespace Go.Proofs.YtaiegpggccdgoaaGreat
structure Ech (m:List (List Int)) (k d:Nat) (c:Nat→Nat):Prop where
 lt:∀ i,i<d→c i<k
 mono:∀ i j,i<j→j<d→c i<c j
 one:∀ i,i<d→ent m i (c i)=1
 zero:∀ i,i<d → ∀ r,r<m.length→r≠i→ent m r (c i)=0
 before:∀ i,i<d → ∀ q,q<c i→ent m i q=0
 rest:∀ r,d≤r→r<m.length → ∀ q,q<k→ent m r q=0
theorem jB {m:List (List Int)} {d:Nat} {x:List Int} (hd:d<m.length) (r q:Nat):ent (m.set d x) r q=if r=d then x.getD q 0 else ent m r q:=by
 unfold ent
 rw[zv]
 by_cases h:r=d
 ·rw[if_pos ⟨h.symm,hd⟩,if_pos h]
 ·rw[if_neg (fun hh=>h hh.1.symm),if_neg h]
theorem yeN {m:List (List Int)} {i j:Nat} (hi:i<m.length) (hj:j<m.length) (r q:Nat):ent (zr m i j) r q=if r=j then ent m i q else if r=i then ent m j q else ent m r q:=by
 unfold zr
 rw[jB (by rw[List.length_set];exact hj)]
 split
 ·rfl
 ·rw[jB hi]
  split
  ·rfl
  ·rfl
theorem ybh {p:Int} {m:List (List Int)} {k d v:Nat} (hv:yR m k d=v) (hd:d<m.length) (hvl:v<m.length) {n:Nat} (hT:Tab p n m) (r q:Nat) (hq:q<n) :
 ent (yV p m k d) r q=if r=d then ent m v q*invF p (ent m v k)%p else if r=v then ent m d q else ent m r q:=by
 unfold yV
 rw[hv,jB (by rw[yc3];exact hd)]
 by_cases h:r=d
 ·rw[if_pos h,if_pos h,z4 _ (by rw[(hT.row hvl).1];exact hq)];rfl
 ·rw[if_neg h,if_neg h,yeN hd hvl]
  by_cases h2:r=v
  ·rw[if_pos h2,if_pos h2]
  ·rw[if_neg h2,if_neg h2,if_neg h]
theorem ybg {p:Int} {n:Nat} {m:List (List Int)} (hT:Tab p n m) (d k r q:Nat) (hr:r<m.length) (hq:q<n) :
 ent (yS p m d k m.length) r q=if r=d then ent m d q else (ent m r q + -(ent m r k)*ent m d q)%p:=by
 show ((yS p m d k m.length).getD r []).getD q 0=_
 rw[uv hr]
 by_cases h:r=d
 ·rw[if_neg (fun hh=>hh.2 h),if_pos h,h];rfl
 ·rw[if_pos ⟨hr,h⟩,if_neg h,zw _ _ (by rw[(hT.row hr).1];exact hq)];rfl
theorem Ech.step {p:Int} (hP:isP p=true) {n:Nat} {s:List (List Int) × Nat} {k:Nat} {c:Nat→Nat} (hT:Tab p n s.1) (hd:s.2≤s.1.length) (hk:k<n) (h:Ech s.1 k s.2 c):∃ c',Ech (zk p k s).1 (k+1) (zk p k s).2 c':=by
 obtain⟨m,d⟩:=s
 simp only at hT hd h
 obtain⟨hb1,hb2⟩:=qK m k d hd
 have hp:2≤p:=by have:=yk hP;omega
 unfold zk
 simp only
 by_cases hv:yR m k d=m.length
 ·rw[if_pos hv]
  refine⟨c,fun i hi=>by have:=h.lt i hi;omega,h.mono,h.one,h.zero,h.before,fun r h1 h2 q hq=>?_⟩
  by_cases hqk:q=k
  ·subst hqk
   have h2':r<m.length:=h2
   exact ygB m q (m.length-d) d r h1 (by show r<yR m q d;omega)
  ·exact h.rest r h1 h2 q (by omega)
 ·rw[if_neg hv]
  obtain⟨v,hvv⟩:∃ v,v=yR m k d:=⟨_,rfl⟩
  rw[← hvv]at hb1 hb2 hv
  have hvl:v<m.length:=by omega
  have hdl:d<m.length:=by omega
  have hne:ent m v k≠0:=by rw[hvv];exact ycz m k (m.length-d) d (by show yR m k d<_;omega)
  have hrange:=hT.ent (by omega) v k
  obtain⟨i1,i2,i3⟩:=vU hP (show 0<ent m v k by omega) hrange.2
  have hone:ent m v k*invF p (ent m v k)%p=1:=(i3 _ (by omega) i2).2 rfl
  have hT1:Tab p n (yV p m k d):=qR (by omega) hT hdl (by omega)
  have hl1:(yV p m k d).length=m.length:=ue p m k d
  have e1:=fun r q (hq:q<n)=>ybh (p:=p) (m:=m) (k:=k) (d:=d) hvv.symm hdl hvl hT r q hq
  have e2:=fun r q (hr:r<m.length) (hq:q<n)=>ybg (p:=p) hT1 d k r q (by rw[hl1];exact hr) hq
  rw[hl1]at e2
  have c1:∀ i,i<d→c i<n:=fun i hi=>by have:=h.lt i hi;omega
  have z1:∀ q,q<k→ent (yV p m k d) d q=0:=fun q hq=>by
   rw[e1 d q (by omega),if_pos rfl,h.rest v hb1 hvl q hq];simp
  have o1:ent (yV p m k d) d k=1:=by rw[e1 d k hk,if_pos rfl,hone]
  refine⟨fun i=>if i=d then k else c i,?_,?_,?_,?_,?_,?_⟩
  ·intro i hi
   show (if i=d then k else c i)<k+1
   split
   ·omega
   ·have:=h.lt i (by omega);omega
  ·intro i j hij hj
   show (if i=d then k else c i)<(if j=d then k else c j)
   rw[if_neg (show i≠d by omega)]
   split
   ·exact h.lt i (by omega)
   ·exact h.mono i j hij (by omega)
  ·intro i hi
   show ent _ i (if i=d then k else c i)=1
   by_cases hid:i=d
   ·rw[if_pos hid,e2 i k (by omega) hk,if_pos hid,o1]
   ·have hi':i<d:=by omega
    rw[if_neg hid,e2 i _ (by omega) (c1 i hi'),if_neg hid,z1 _ (h.lt i hi'),e1 i _ (c1 i hi'),if_neg hid,if_neg (show i≠v by omega),h.one i hi',Int.mul_zero]
    exact Int.emod_eq_of_lt (by omega) (by omega)
  ·intro i hi r hr hri
   rw[vl,hl1]at hr
   show ent _ r (if i=d then k else c i)=0
   by_cases hid:i=d
   ·rw[if_pos hid,e2 r k hr hk,if_neg (fun e=>hri (e.trans hid.symm)),o1,Int.mul_one]
    rw[Int.add_right_neg];simp
   ·have hi':i<d:=by omega
    rw[if_neg hid,e2 r _ hr (c1 i hi')]
    by_cases hrd:r=d
    ·rw[if_pos hrd];exact z1 _ (h.lt i hi')
    ·rw[if_neg hrd,z1 _ (h.lt i hi'),e1 r _ (c1 i hi'),if_neg hrd]
     by_cases hrv:r=v
     ·rw[if_pos hrv,h.zero i hi' d hdl (by omega)];simp
     ·rw[if_neg hrv,h.zero i hi' r hr hri];simp
  ·intro i hi q hq
   by_cases hid:i=d
   ·have hq':q<k:=by simpa [hid] using hq
    rw[e2 i q (by omega) (by omega),if_pos hid]
    exact z1 q hq'
   ·have hq':q<c i:=by simpa [hid] using hq
    have hi':i<d:=by omega
    have:=h.lt i hi'
    rw[e2 i q (by omega) (by omega),if_neg hid,z1 q (by omega),e1 i q (by omega),if_neg hid,if_neg (show i≠v by omega),h.before i hi' q hq']
    simp
  ·intro r h1 h2 q hq
   rw[vl,hl1]at h2
   rw[e2 r q h2 (by omega),if_neg (show r≠d by simp only at h1;omega)]
   by_cases hqk:q=k
   ·subst hqk
    rw[o1,Int.mul_one,Int.add_right_neg];simp
   ·have hq':q<k:=by omega
    have h1':d+1≤r:=h1
    rw[z1 q hq',e1 r q (by omega),if_neg (show r≠d by omega)]
    by_cases hrv:r=v
    ·rw[if_pos hrv,h.rest d (Nat.le_refl _) hdl q hq'];simp
    ·rw[if_neg hrv,h.rest r (by omega) h2 q hq'];simp
theorem Ech.start (m:List (List Int)) (c:Nat→Nat):Ech m 0 0 c:=⟨fun i hi=>absurd hi (by omega),fun i j _ hj=>absurd hj (by omega),fun i hi=>absurd hi (by omega),fun i hi=>absurd hi (by omega),fun i hi=>absurd hi (by omega),fun _ _ _ q hq=>absurd hq (by omega)⟩
theorem yaP {p:Int} (hP:isP p=true) {n:Nat} (m:List (List Int)) (hT:Tab p n m) (k:Nat) (hk:k≤n):∃ c,Ech (yu p m k).1 k (yu p m k).2 c:=by
 have hp:2≤p:=by have:=yk hP;omega
 induction k with
 | zero=>exact⟨fun _=>0,Ech.start _ _⟩
 | succ k ih=>
  obtain⟨c,hc⟩:=ih (by omega)
  obtain⟨h1,h2,h3⟩:=vy (by omega) m hT k
  exact hc.step hP h1 (by omega) (by omega)
def ld (B:List (List Int)) (i:Nat):Nat:=yn (B.getD i [])
structure Red (n:Nat) (B:List (List Int)):Prop where
 lt:∀ i,i<B.length→ld B i<n
 one:∀ i,i<B.length→ent B i (ld B i)=1
 zero:∀ i r,i<B.length→r<B.length→r≠i→ent B r (ld B i)=0
 mono:∀ i j,i<j→j<B.length→ld B i<ld B j
theorem Red.before {n:Nat} {B:List (List Int)} (_h:Red n B) (i q:Nat) (hq:q<ld B i):ent B i q=0:=uL _ q hq
theorem Red.inj {n:Nat} {B:List (List Int)} (h:Red n B) {i j:Nat} (hi:i<B.length) (hj:j<B.length) (e:ld B i=ld B j):i=j:=by
 rcases Nat.lt_trichotomy i j with hl | hl | hl
 ·have:=h.mono i j hl hj;omega
 ·exact hl
 ·have:=h.mono j i hl hi;omega
theorem Red.nil (n:Nat):Red n []:=⟨fun i hi=>absurd hi (by simp),fun i hi=>absurd hi (by simp),fun i r hi=>absurd hi (by simp),fun i j _ hj=>absurd hj (by simp)⟩
theorem Red.len {n:Nat} {B:List (List Int)} (h:Red n B):B.length≤n:=by
 have hle:∀ j,j<B.length→j≤ld B j:=by
  intro j
  induction j with
  | zero=>intro _;omega
  | succ j ih=>
   intro hj
   have h1:=ih (by omega)
   have h2:=h.mono j (j+1) (by omega) hj
   omega
 by_cases h0:B.length=0
 ·omega
 ·have h1:=hle (B.length-1) (by omega)
  have h2:=h.lt (B.length-1) (by omega)
  omega
theorem qP {p:Int} {n:Nat} {m:List (List Int)} (hT:Tab p n m) (h0:0<m.length):(m.getD 0 []).length=n:=(hT.row h0).1
theorem jf (p:Int):yf p []=[]:=by unfold yf;simp[yu]
theorem xz {p:Int} (hP:isP p=true) {n:Nat} (m:List (List Int)) (hT:Tab p n m):Red n (yf p m):=by
 have hp:2≤p:=by have:=yk hP;omega
 by_cases h0:0<m.length
 ·have hl:=qP hT h0
  obtain⟨c,hc⟩:=yaP hP m hT n (Nat.le_refl _)
  obtain⟨h1,h2,h3⟩:=vy (p:=p) (by omega) m hT n
  have hlen:=(yaO (p:=p) (by omega) m hT).1
  rw[hl]at hlen
  have hg:∀ i,i<(yf p m).length→(yf p m).getD i []=(yu p m n).1.getD i []:=fun i hi=>by
   have hi2:i<(yu p m n).1.length:=by omega
   have e:yf p m=(yu p m n).1.take (yu p m n).2:=by unfold yf;rw[hl]
   rw[yc [] hi,yc [] hi2]
   simp only[e,List.getElem_take]
  have he:∀ i q,i<(yf p m).length→ent (yf p m) i q=ent (yu p m n).1 i q:=fun i q hi=>by unfold ent;rw[hg i hi]
  have hld:∀ i,i<(yf p m).length→ld (yf p m) i=c i:=fun i hi=>by
   have hi':i<(yu p m n).2:=by omega
   have hr:=(h1.row (show i<(yu p m n).1.length by omega)).1
   unfold ld
   rw[hg i hi]
   refine j8 _ _ (fun j hj=>hc.before i hi' j hj) (.inr ⟨by rw[hr];exact hc.lt i hi',?_⟩)
   have:=hc.one i hi'
   unfold ent at this
   rw[this];omega
  refine⟨fun i hi=>?_,fun i hi=>?_,fun i r hi hr hri=>?_,fun i j hij hj=>?_⟩
  ·rw[hld i hi];exact hc.lt i (by omega)
  ·rw[hld i hi,he i _ hi];exact hc.one i (by omega)
  ·rw[hld i hi,he r _ hr];exact hc.zero i (by omega) r (by omega) hri
  ·rw[hld i (by omega),hld j hj];exact hc.mono i j hij (by omega)
 ·obtain rfl:m=[]:=List.eq_nil_of_length_eq_zero (by omega)
  rw[jf]
  exact Red.nil n
def xn (B:List (List Int)) (k:Nat):Option Nat:=(List.range B.length).find? fun i=>ld B i == k
def isLd (B:List (List Int)) (k:Nat):Bool:=(List.range B.length).any fun i=>ld B i == k
theorem j7 {n:Nat} {B:List (List Int)} (h:Red n B) {i:Nat} (hi:i<B.length):xn B (ld B i)=some i:=by
 unfold xn
 cases e:(List.range B.length).find? fun j=>ld B j == ld B i with
 | none=>
  have:=List.find?_eq_none.1 e i (by simpa using hi)
  simp at this
 | some j=>
  have h1:=List.find?_some e
  have h2:=List.mem_of_find?_eq_some e
  have hji:j=i:=h.inj (by simpa using h2) hi (by simpa using h1)
  rw[hji]
theorem yb4 {B:List (List Int)} {k:Nat} (h:isLd B k=false):xn B k=none:=by
 unfold xn
 rw[List.find?_eq_none]
 intro i hi
 have:=List.any_eq_false.1 h i hi
 exact this
theorem z9 {B:List (List Int)} {k:Nat}:isLd B k=true ↔ ∃ i,i<B.length∧ld B i=k:=by
 unfold isLd
 rw[List.any_eq_true]
 constructor
 ·rintro ⟨i,hi,e⟩;exact⟨i,by simpa using hi,by simpa using e⟩
 ·rintro ⟨i,hi,e⟩;exact⟨i,by simpa using hi,by simpa using e⟩
def y4 (p:Int) (B:List (List Int)) (n f:Nat) (left:Nat→Bool):List Int:=
 tab n fun k=>if k=f then 1 else if left k then 0 else match xn B k with | some i=>(-(ent B i f))%p | none=>0
def za (p:Int) (B:List (List Int)) (n f:Nat):List Int:=y4 p B n f fun _=>false
theorem vC (p:Int) (B:List (List Int)) (n f:Nat) (left:Nat→Bool):(y4 p B n f left).length=n:=yG _ _
theorem yeY {p:Int} (hp:2≤p) (B:List (List Int)) (n f:Nat) (left:Nat→Bool):NumsL p (y4 p B n f left):=NumsL.tab fun i _=>by
 split
 ·omega
 ·split
  ·omega
  ·split
   ·exact⟨Int.emod_nonneg _ (by omega),Int.emod_lt_of_pos _ (by omega)⟩
   ·omega
theorem ybu (p:Int) (B:List (List Int)) (n f:Nat) (_hf:f<n) (left:Nat→Bool) (h:∀ k,k<n→isLd B k=true→left k=true):y4 p B n f left=ye n f:=by
 apply yU 0 (by rw[vC,zm])
 intro k hk
 rw[vC]at hk
 unfold y4 ye
 rw[yC hk,zv,List.length_replicate]
 by_cases hkf:k=f
 ·subst hkf
  rw[if_pos rfl,if_pos ⟨rfl,hk⟩]
 ·have hkf':¬ (f=k∧f<n):=fun hh=>hkf hh.1.symm
  rw[if_neg hkf,if_neg hkf']
  have hz:(List.replicate n (0:Int)).getD k 0=0:=by rw[yc 0 (by simpa using hk)];simp
  rw[hz]
  cases hl:left k with
  | true=>rfl
  | false=>
   have hn:isLd B k=false:=by
    cases hh:isLd B k with
    | false=>rfl
    | true=>rw[h k hk hh]at hl;cases hl
   rw[yb4 hn];rfl
theorem ybv {p:Int} {n:Nat} {B:List (List Int)} (h:Red n B) {f i:Nat} (hi:i<B.length) (hf:isLd B f=false) (left:Nat→Bool) :
 (y4 p B n f left).set (ld B i) ((-(ent B i f))%p)=y4 p B n f fun k=>left k && !(k == ld B i):=by
 apply yU 0 (by rw[List.length_set,vC,vC])
 intro k hk
 rw[List.length_set,vC]at hk
 rw[zv,vC]
 unfold y4
 rw[yC hk,yC hk]
 by_cases hki:ld B i=k
 ·subst hki
  have hne:ld B i≠f:=fun e=>by
   have:=z9.2 ⟨i,hi,e⟩
   rw[hf]at this;cases this
  rw[if_pos ⟨rfl,hk⟩,if_neg hne]
  simp[j7 h hi]
 ·rw[if_neg (fun hh=>hki hh.1)]
  by_cases hkf:k=f
  ·rw[if_pos hkf,if_pos hkf]
  ·rw[if_neg hkf,if_neg hkf]
   have:(k == ld B i)=false:=by simp;exact fun e=>hki e.symm
   simp only[this,Bool.not_false,Bool.and_true]
theorem qp (p:Int) (B:List (List Int)) (n f:Nat) {left left':Nat→Bool} (h:∀ k,k<n→left k=left' k):y4 p B n f left=y4 p B n f left':=by
 refine uQ fun k hk=>?_
 rw[h k hk]
def y5 (p:Int) (B:List (List Int)) (n k:Nat):List (List Int):=((List.range k).filter fun f=>!isLd B f).map (za p B n)
theorem ybA {p:Int} {B:List (List Int)} {n k:Nat} (h:isLd B k=true):y5 p B n (k+1)=y5 p B n k:=by
 unfold y5;rw[List.range_succ,List.filter_append];simp[h]
theorem ybC {p:Int} {B:List (List Int)} {n k:Nat} (h:isLd B k=false):y5 p B n (k+1)=y5 p B n k++[za p B n k]:=by
 unfold y5;rw[List.range_succ,List.filter_append];simp[h]
theorem uE {p:Int} (hp:2≤p) (B:List (List Int)) (n k:Nat):Tab p n (y5 p B n k):=fun y hy=>by
 obtain⟨f,_,rfl⟩:=List.mem_map.1 hy
 exact⟨vC _ _ _ _ _,yeY hp _ _ _ _⟩
def yI (p:Int) (m:List (List Int)) (n:Nat):List (List Int):=yf p (y5 p (yf p m) n n)
theorem vW {p:Int} (hp:2≤p) (m:List (List Int)) (n:Nat):Tab p n (yI p m n):=vO (by omega) _ (uE hp _ n n)
theorem uI {p:Int} (hP:isP p=true) (m:List (List Int)) (n:Nat):Red n (yI p m n):=xz hP _ (uE (by have:=yk hP;omega) _ n n)
theorem jX {p:Int} (hP:isP p=true) (m:List (List Int)) (n:Nat):(yI p m n).length≤n:=(uI hP m n).len
end Go.Proofs.YtaiegpggccdgoaaGreat
namespace Go.Proofs.YtaiegpggccdgoaaGreat
open Go.RowKit
structure VP where
 p:Value→World→Prop
 st:∀ v w w',p v w→Below w.heap.size w w'→p v w'
def VIs (u:Value):VP:=⟨fun v _=>v=u,fun _ _ _ h _=>h⟩
def VAny:VP:=⟨fun _ _=>True,fun _ _ _ h _=>h⟩
def VSl (w0:World) (n:Nat) (L:List Int):VP:=⟨fun v w=>∃ A c,v=.slice A n c∧MkI w0 w A n c L,fun _ _ _ ⟨A,c,e,h⟩ hb=>⟨A,c,e,h.below hb⟩⟩
def VMat (w0:World) (n:Nat) (L:List (List Int)):VP:=⟨fun v w=>∃ A c,v=.slice A n c∧MkII w0 w A n c L,fun _ _ _ ⟨A,c,e,h⟩ hb=>⟨A,c,e,h.below hb⟩⟩
def VBs (E:TypeId) (cs:Array Value):VP:=⟨fun v w=>∃ g,v=.slice (some ⟨g,0,none⟩) cs.size cs.size∧Blk w g E cs,fun _ _ _ ⟨g,e,h⟩ hb=>⟨g,e,h.below hb h.lt⟩⟩
def yaK (u:Value):VP:=⟨fun v w=>∃ p,v=.pointer (some p)∧w.cell? p=some u,fun _ _ _ ⟨p,e,h⟩ hb=>⟨p,e,(hb.cell (World.block_lt_of_cell? _ _ h)).trans h⟩⟩
theorem Rd.lenI {w:World} {A:Option Addr} {n:Nat} {xs:List Int} (h:Rd w A n (ints xs)):xs.length=n:=by have:=h.1;rwa [yD]at this
theorem q8 {P:Program} {o:Oper} {a:Act} {K:Act→World→Prop} {Q:Exit→Act→World→Prop} (w0 wr:World) (T E:TypeId) (z:Value) (bytes:Nat)
 (ht:P.underlying T=some (.slice E)) (hinfo:(P.info? E).map (fun i=>(i.zero,i.size,i.bytes))=some (some z,1,bytes)) (hz:z.cells.size=1) (hby:bytes≤24)
 (s x:Operand) (ho:o.op=.call { callee:=.builtin .append,args:=#[s,x],argTypes:=#[T,T] })
 (A:Option Addr) (n c:Nat) (us:List Value) (u:Value) (hM:Mk w0 wr E A n c us) (hn:n≤1099511627776) (hu:u.oneCell'=true) (g:Nat) (hB:Blk wr g E #[u])
 (hs:a.eval s=.slice A n c) (hx:a.eval x=.slice (some ⟨g,0,none⟩) 1 1)
 (h:∀ A' c' w',Mk w0 w' E A' (n+1) c' (us++[u])→wr.grownBy w' (Value.slice A n c).ownBlock→K (a.put o.dst (.slice A' (n+1) c')) w'):o.wp P a wr K Q:=by
 obtain⟨i,hi,h1,h2,h3⟩:=info_parts hinfo
 obtain⟨b1,b2⟩:=xh hn
 refine wp_append_lies wr s x T ho w0.heap.size E i z 1 bytes ht hi h1 h2 h3 hz (by omega) (.slice A n c) n us hs hM.2 ⟨g,0,none⟩ 1 1 [u] hx rfl (fun j v hv=>?_)
  (by intro v hv;simp at hv;rw[hv];exact hu) (by omega) b1 (b2 _ hby) hM.1.size _ rfl (fun g' cap w' hown hg hat _=>h _ _ _ ⟨hM.1.grown hg hM.1.size (fun k hk=>(hM.2.lt k hk).1),hown⟩ hg)
 match j,hv with
 | 0,hv=>simp at hv;subst hv;rw[Addr.add_lit];exact hB.cell 0
def yg (ops:Array Oper) (i:Nat):Option Tmp:=(ops[i]?).bind (·.dst)
def putD (ops:Array Oper) (L:Nat→Bool) (x:Nat→Value) (a0:Act):Nat→Act
 | 0=>a0
 | n+1=>if L n then (putD ops L x a0 n).put (yg ops n) (x n) else putD ops L x a0 n
def putS (ops:Array Oper) (x:Nat→Value) (a0:Act) (n:Nat):Act:=putD ops (fun _=>true) x a0 n
section
variable {P:Program} {ops:Array Oper} {Q:Exit→Act→World→Prop}
def yZ (ops:Array Oper) (m sz:Nat) (R:List (List Nat)):Bool:=
 Region.noSelect ops && m≤ops.size &&
 (List.range ops.size).all (fun j=>match ops[j]? with
  | none=>false
  | some o=>(R.getD j []).all (fun i=>o.after.toList.any fun e=>Region.binds .any e && (decide (e.on<j)) && (e.on == i || (R.getD e.on []).contains i)) &&
   if j<m then
    (o.after.toList.all fun e=>!Region.binds .any e || decide (e.on<j)) &&
    (match o.dst with
     | none=>false
     | some d=>decide (d<sz) && (List.range m).all fun i=>i == j || yg ops i != some d) &&
    (o.looksAt ops).all (fun t=>(List.range m).all fun i=>yg ops i != some t || (R.getD j []).contains i)
   else (List.range m).all fun i=>(R.getD j []).contains i)
theorem xr (L:Nat→Bool) (x:Nat→Value) (a0:Act):∀ n,(putD ops L x a0 n).tmps.size=a0.tmps.size∧(putD ops L x a0 n).defers=a0.defers:=by
 intro n
 induction n with
 | zero=>exact⟨rfl,rfl⟩
 | succ n ih=>
  unfold putD
  split
  ·cases hd:yg ops n with
   | none=>exact ih
   | some d=>simp[Act.put,ih]
  ·exact ih
theorem xS (L:Nat→Bool) (x:Nat→Value) (a0:Act) (t:Tmp):∀ n,(∀ i,i<n→yg ops i=some t→L i=false)→(putD ops L x a0 n).tmps[t]? = a0.tmps[t]?:=by
 intro n
 induction n with
 | zero=>intro _;rfl
 | succ n ih=>
  intro h
  have h1:=ih fun i hi=>h i (by omega)
  unfold putD
  split
  ·rename_i hl
   cases hd:yg ops n with
   | none=>exact h1
   | some d=>
    have hne:d≠t:=fun e=>by
     have:=h n (by omega) (by rw[hd,e])
     rw[hl]at this;cases this
    simp only[Act.put]
    rw[Array.getElem?_setIfInBounds_ne hne]
    exact h1
  ·exact h1
theorem xR (L:Nat→Bool) (x:Nat→Value) (a0:Act) (t:Tmp) (i:Nat) (hi:yg ops i=some t) (hl:L i=true) (ht:t<a0.tmps.size) :
 ∀ n,i<n→(∀ k,k<n→k≠i→yg ops k≠some t)→(putD ops L x a0 n).tmps[t]? = some (x i):=by
 intro n
 induction n with
 | zero=>intro h;omega
 | succ n ih=>
  intro hin hd
  by_cases hni:n=i
  ·subst hni
   unfold putD
   rw[if_pos hl,hi]
   simp only[Act.put]
   have:=(xr (ops:=ops) L x a0 n).1
   simp[this,ht]
  ·have h1:=ih (by omega) (fun k hk=>hd k (by omega))
   unfold putD
   split
   ·cases hdn:yg ops n with
    | none=>exact h1
    | some d=>
     have hne:d≠t:=fun e=>hd n (by omega) hni (by rw[hdn,e])
     simp only[Act.put]
     rw[Array.getElem?_setIfInBounds_ne hne]
     exact h1
   ·exact h1
theorem xq (L L':Nat→Bool) (x x':Nat→Value) (a0:Act):∀ n,(∀ i,i<n→L i=L' i∧(L i=true→x i=x' i))→putD ops L x a0 n=putD ops L' x' a0 n:=by
 intro n
 induction n with
 | zero=>intro _;rfl
 | succ n ih=>
  intro h
  have h1:=ih fun i hi=>h i (by omega)
  obtain⟨h2,h3⟩:=h n (by omega)
  unfold putD
  rw[h1,← h2]
  split
  ·rename_i hl;rw[h3 hl]
  ·rfl
theorem uN (L L':Nat→Bool) (x x':Nat→Value) (a0:Act) (i:Nat) (hL:L i=false) (hL':L' i=true) (hne:∀ k,k≠i→L k=L' k∧x k=x' k) :
 ∀ n,i<n→(∀ d k,k<n→k≠i→yg ops i=some d→yg ops k≠some d)→(putD ops L x a0 n).put (yg ops i) (x' i)=putD ops L' x' a0 n:=by
 intro n
 induction n with
 | zero=>intro h;omega
 | succ n ih=>
  intro hin hd
  by_cases hni:n=i
  ·subst hni
   unfold putD
   rw[if_neg (by rw[hL];decide),if_pos hL',xq L L' x x' a0 n (fun k hk=>⟨(hne k (by omega)).1,fun _=>(hne k (by omega)).2⟩)]
  ·have h1:=ih (by omega) (fun d k hk=>hd d k (by omega))
   obtain⟨h2,h3⟩:=hne n hni
   unfold putD
   rw[← h2,← h3]
   split
   ·rw[← h1]
    exact Act.put_comm _ _ _ (fun d e1 e2=>hd d n (by omega) hni e2 e1)
   ·exact h1
def NoWay:Exit→Act→World→Prop:=fun _ _ _=>False
theorem NoWay.lets (h:LetsOut NoWay):False:=by obtain⟨_,_,h⟩:=h;exact h
theorem ja {o:Oper} {a1 a2:Act} {w:World} {d:Tmp} {R:Value→World→Prop} (he:execOp a2.eval o=execOp a1.eval o) (hd:o.dst=some d) (hs:d<a1.tmps.size)
 (h:o.wp P a1 w (fun a' w'=>∃ v,a'.tmps[d]? = some v∧a'.defers=a1.defers∧R v w') NoWay):o.wp P a2 w (fun a' w'=>∃ v,a'=a2.put (some d) v∧R v w') Q:=by
 have key:∀ (u:Value) (w':World),(∃ v,(a1.put (some d) u).tmps[d]? = some v∧(a1.put (some d) u).defers=a1.defers∧R v w') → ∃ v,a2.put (some d) u=a2.put (some d) v∧R v w':=by
  rintro u w' ⟨v,hv,_,hR⟩
  refine⟨u,rfl,?_⟩
  simp[Act.put,hs]at hv
  exact hv▸hR
 unfold Oper.wp at *
 rw[he]
 generalize (execOp a1.eval o).run P w=r at *
 cases r with
 | ok n w'=>
  cases n<;>simp only[Oper.upon,hd]at h ⊢
  case value u=>exact key _ _ h
  case skip=>exact key _ _ h
  case defer dd=>
   obtain⟨v,_,h,_⟩:=h
   have h1:=congrArg List.length h
   simp[Act.put]at h1
  case enter f args=>
   refine Calls.mono h fun e w'' he=>?_
   cases e with
   | returned u=>exact key _ _ he
   | panicked c=>exact absurd he id
   | outgrown=>exact absurd he NoWay.lets
  case row row args=>exact Rows.mono h fun u w'' he=>key _ _ he
 | halt x w'=>
  cases x<;>simp only[Oper.upon]at h ⊢
  case panic u=>exact absurd h id
def Ob (P:Program) (ops:Array Oper) (S:World→Prop) (R:List (List Nat)) (V:List VP) (x:Nat→Value) (a0:Act) (j:Nat):Prop:=
 ∀ w,S w→(∀ i∈R.getD j [],(V.getD i VAny).p (x i) w) →
  wpOp P ops NoWay j (fun a' w'=>∃ v,(∀ d,yg ops j=some d→a'.tmps[d]? = some v)∧a'.defers=a0.defers∧(V.getD j VAny).p v w'∧Below w.heap.size w w') (putS ops x a0 j) w
theorem zZ {ops:Array Oper} {m sz:Nat} {R:List (List Nat)} (hok:yZ ops m sz R=true) (L:Nat→Bool)
 (hL:∀ (j:Nat) (o:Oper),ops[j]? = some o→L j=true → ∀ e∈o.after,Region.binds .any e=true→L e.on=true) :
 ∀ (j:Nat) (o:Oper),ops[j]? = some o→(∀ e∈o.after,Region.binds .any e=true→L e.on=true) → ∀ i∈R.getD j [],L i=true:=by
 intro j
 induction j using Nat.strongRecOn with
 | ind j ih=>
  intro o ho hal i hi
  have hlt:j<ops.size:=(Array.getElem?_eq_some_iff.1 ho).1
  unfold yZ at hok
  simp only[Bool.and_eq_true]at hok
  have h1:=List.all_eq_true.1 hok.2 j (by simpa using hlt)
  rw[ho]at h1
  simp only[Bool.and_eq_true]at h1
  have h2:=List.all_eq_true.1 h1.1 i hi
  obtain⟨e,he,hc⟩:=List.any_eq_true.1 h2
  replace he:e∈o.after:=by simpa using he
  simp only[Bool.and_eq_true,Bool.or_eq_true,decide_eq_true_eq,beq_iff_eq,List.contains_iff_mem]at hc
  obtain⟨⟨hb,hej⟩,hc⟩:=hc
  have hle:=hal e he hb
  rcases hc with rfl | hc
  ·exact hle
  ·have hes:e.on<ops.size:=by omega
   exact ih e.on hej _ (Array.getElem?_eq_getElem hes) (fun e' he' hb'=>hL e.on _ (Array.getElem?_eq_getElem hes) hle e' he' hb') i hc
theorem xt {ops:Array Oper} {m sz:Nat} {R:List (List Nat)} (hok:yZ ops m sz R=true):∀ j,j<ops.size → ∀ i∈R.getD j [],i<j:=by
 intro j
 induction j using Nat.strongRecOn with
 | ind j ih=>
  intro hlt i hi
  unfold yZ at hok
  simp only[Bool.and_eq_true]at hok
  have h1:=List.all_eq_true.1 hok.2 j (by simpa using hlt)
  rw[Array.getElem?_eq_getElem hlt]at h1
  simp only[Bool.and_eq_true]at h1
  have h2:=List.all_eq_true.1 h1.1 i hi
  obtain⟨e,he,hc⟩:=List.any_eq_true.1 h2
  simp only[Bool.and_eq_true,Bool.or_eq_true,decide_eq_true_eq,beq_iff_eq,List.contains_iff_mem]at hc
  obtain⟨⟨hb,hej⟩,hc⟩:=hc
  rcases hc with rfl | hc
  ·exact hej
  ·have:=ih e.on hej (by omega) i hc
   omega
theorem vu {ops:Array Oper} {m sz:Nat} {R:List (List Nat)} (hok:yZ ops m sz R=true) :
 m≤ops.size∧(∀ (j:Nat) (o:Oper),ops[j]? = some o→j<m→(∀ e∈o.after,Region.binds .any e=true→e.on<j)∧(∃ d,o.dst=some d∧d<sz ∧ ∀ i,i<m→i≠j→yg ops i≠some d) ∧
  ∀ t∈o.looksAt ops,∀ i,i<m→yg ops i=some t→i∈R.getD j [])∧(∀ (j:Nat),j<ops.size→m≤j → ∀ i,i<m→i∈R.getD j []):=by
 unfold yZ at hok
 simp only[Bool.and_eq_true,decide_eq_true_eq]at hok
 obtain⟨⟨_,hm⟩,hall⟩:=hok
 refine⟨hm,fun j o ho hj=>?_,fun j hlt hj i hi=>?_⟩
 ·have hlt:j<ops.size:=(Array.getElem?_eq_some_iff.1 ho).1
  have h1:=List.all_eq_true.1 hall j (by simpa using hlt)
  rw[ho]at h1
  simp only[Bool.and_eq_true,if_pos hj]at h1
  obtain⟨_,⟨h2,h3⟩,h4⟩:=h1
  refine⟨fun e he hb=>?_,?_,fun t ht i hi hd=>?_⟩
  ·have:=List.all_eq_true.1 h2 e (by simpa using he)
   simpa [hb] using this
  ·cases hd:o.dst with
   | none=>rw[hd]at h3;cases h3
   | some d=>
    rw[hd]at h3
    simp only[Bool.and_eq_true,decide_eq_true_eq]at h3
    refine⟨d,rfl,h3.1,fun i hi hne=>?_⟩
    have:=List.all_eq_true.1 h3.2 i (by simpa using hi)
    simpa [hne] using this
  ·have:=List.all_eq_true.1 (List.all_eq_true.1 h4 t ht) i (by simpa using hi)
   simpa [hd] using this
 ·have h1:=List.all_eq_true.1 hall j (by simpa using hlt)
  rw[Array.getElem?_eq_getElem hlt]at h1
  simp only[Bool.and_eq_true,if_neg (Nat.not_lt.2 hj)]at h1
  have:=List.all_eq_true.1 h1.2 i (by simpa using hi)
  simpa using this
theorem uU {o:Oper} {t1 t2:Array Value} (h:∀ t∈o.looksAt ops,t1[t]? = t2[t]?):Region.wanted o (yielded ops t1)=Region.wanted o (yielded ops t2):=by
 unfold Region.wanted
 cases hg:o.guard with
 | none=>rfl
 | some gw=>
  obtain⟨g,want⟩:=gw
  have hy:yielded ops t1 g=yielded ops t2 g:=by
   unfold yielded
   cases ht:(ops[g]?).bind (·.dst) with
   | none=>rfl
   | some t=>
    have:=h t (by simp[Oper.looksAt,hg,ht])
    simp[this]
  simp only[hy]
theorem uB {o:Oper} {a1 a2:Act} (hs:∀ cs b,o.op ≠ .select cs b) (h:∀ t∈o.looksAt ops,a1.tmps[t]? = a2.tmps[t]?):execOp a1.eval o=execOp a2.eval o:=
 execOp_congr o hs fun x hx=>by
  cases x with
  | tmp t=>
   have:=h t (List.mem_append_left _ (List.mem_filterMap.2 ⟨.tmp t,by simpa using hx,rfl⟩))
   simp[Act.eval,this]
  | _=>rfl
theorem ub:∀ (U:List Nat),U≠[] → ∃ i∈U,∀ k∈U,i≤k
 | [],h=>absurd rfl h
 | [i],_=>⟨i,by simp,by simp⟩
 | i::j::r,_=>by
  obtain⟨k,hk,hmin⟩:=ub (j::r) (by simp)
  by_cases h:i≤k
  ·exact⟨i,by simp,fun l hl=>by
    rcases List.mem_cons.1 hl with rfl | hl
    ·exact Nat.le_refl _
    ·exact Nat.le_trans h (hmin l hl)⟩
  ·exact⟨k,List.mem_cons_of_mem _ hk,fun l hl=>by
    rcases List.mem_cons.1 hl with rfl | hl
    ·omega
    ·exact hmin l hl⟩
def yx (n m:Nat):Array Bool:=((List.range n).map fun i=>decide (i<m)).toArray
theorem yhR {m:Nat} {R:List (List Nat)} {V:List VP} {S:World→Prop} {a0:Act} (hok:yZ ops m a0.tmps.size R=true)
 (hSt:∀ w w',S w→Below w.heap.size w w'→S w') (hob:∀ x j,j<m→Ob P ops S R V x a0 j)
 (hend:∀ x w',S w'→(∀ i,i<m→(V.getD i VAny).p (x i) w')→wpAny P .any ops Q (ops.size-m) (yx ops.size m) (putS ops x a0 m) w') :
 ∀ (c:Nat) (U:List Nat) (listed:Array Bool) (w:World) (x:Nat→Value),U.length=c→U.Nodup→(∀ i,i∈U↔i<m∧listed.getD i false=false)→listed.size=ops.size →
  (∀ i,m≤i→i<ops.size→listed.getD i false=false)→(∀ (j:Nat) (o:Oper),ops[j]? = some o→listed.getD j false=true → ∀ e∈o.after,Region.binds .any e=true→listed.getD e.on false=true) →
  S w→(∀ i,i<m→listed.getD i false=true→(V.getD i VAny).p (x i) w)→wpAny P .any ops Q (ops.size-m+c) listed (putD ops (fun i=>listed.getD i false) x a0 m) w:=by
 obtain⟨hmn,hspec,htail⟩:=vu hok
 have hsel:Region.noSelect ops=true:=by unfold yZ at hok;simp only[Bool.and_eq_true]at hok;exact hok.1.1
 intro c
 induction c with
 | zero=>
  intro U listed w x hU hnd hmem hsz hun hcl hS hV
  obtain rfl:U=[]:=List.eq_nil_of_length_eq_zero hU
  have hall:∀ i,i<m→listed.getD i false=true:=fun i hi=>by
   cases h:listed.getD i false
   ·exact absurd ((hmem i).2 ⟨hi,h⟩) (by simp)
   ·rfl
  have hl:listed=yx ops.size m:=by
   apply Array.ext
   ·simp[yx,hsz]
   ·intro i h1 h2
    have e:listed.getD i false=listed[i]:=by simp[Array.getD,h1]
    by_cases hi:i<m
    ·have:=hall i hi
     rw[e]at this
     simp[yx,this,hi]
    ·have:=hun i (by omega) (by omega)
     rw[e]at this
     simp[yx,this,hi]
  rw[Nat.add_zero,xq (ops:=ops) _ (fun _=>true) x x a0 m (fun i hi=>⟨hall i hi,fun _=>rfl⟩),hl]
  exact hend x w hS (fun i hi=>hV i hi (hall i hi))
 | succ c ih=>
  intro U listed w x hU hnd hmem hsz hun hcl hS hV
  have hne:U≠[]:=fun e=>by rw[e]at hU;simp at hU
  show (_→_)∧_
  refine⟨fun hr=>?_,fun i hi=>?_⟩
  ·exfalso
   obtain⟨i,hiU,hmin⟩:=ub U hne
   obtain⟨him,hil⟩:=(hmem i).1 hiU
   have hlt:i<ops.size:=by omega
   have:i∈Region.ready .any ops listed:=mem_ready.2 ⟨by simpa [Array.getD,hsz,hlt] using hil,_,Array.getElem?_eq_getElem hlt,fun e he hb=>by
    have hlti:=(hspec i _ (Array.getElem?_eq_getElem hlt) him).1 e he hb
    cases h:listed.getD e.on false
    ·have:=hmin e.on ((hmem _).2 ⟨by omega,h⟩);omega
    ·rfl⟩
   rw[hr]at this
   cases this
  ·obtain⟨hil,o,ho,hdeps⟩:=mem_ready.1 hi
   have hlt:i<ops.size:=(Array.getElem?_eq_some_iff.1 ho).1
   have hil':listed.getD i false=false:=by simpa [Array.getD,hsz,hlt] using hil
   have hreach:=zZ hok (fun i=>listed.getD i false) hcl i o ho hdeps
   have him:i<m:=by
    rcases Nat.lt_or_ge i m with h | h
    ·exact h
    ·exfalso
     obtain⟨k,hk⟩:=List.exists_mem_of_ne_nil U hne
     obtain⟨hkm,hkl⟩:=(hmem k).1 hk
     have:=hreach k (htail i hlt h k hkm)
     rw[hkl]at this;cases this
   obtain⟨_,⟨d,hd,hdsz,hduniq⟩,hlook⟩:=hspec i o ho him
   have hdst:yg ops i=some d:=by simp[yg,ho,hd]
   have hso:∀ cs b,o.op ≠ .select cs b:=fun cs b=>Region.noSelect_spec hsel i o cs b ho
   -- the two frames agree on what o looks at
   have hagree:∀ t∈o.looksAt ops,(putD ops (fun i=>listed.getD i false) x a0 m).tmps[t]? = (putS ops x a0 i).tmps[t]?:=fun t ht=>by
    by_cases hex:∃ k,k<m∧yg ops k=some t
    ·obtain⟨k,hkm,hkd⟩:=hex
     have hkR:=hlook t ht k hkm hkd
     have hki:=xt hok i hlt k hkR
     have hkl:=hreach k hkR
     have hks:k<ops.size:=by omega
     obtain⟨_,⟨d',hd',hdsz',hu'⟩,_⟩:=hspec k _ (Array.getElem?_eq_getElem hks) hkm
     have htd:d'=t:=by
      have:yg ops k=some d':=by simp[yg,Array.getElem?_eq_getElem hks,hd']
      rw[hkd]at this;injection this with this;exact this.symm
     rw[xR _ _ _ _ k hkd hkl (htd▸hdsz') m hkm (fun l hl hlk=>htd▸hu' l hl hlk)]
     unfold putS
     rw[xR _ _ _ _ k hkd rfl (htd▸hdsz') i hki (fun l hl hlk=>htd▸hu' l (by omega) hlk)]
    ·rw[xS _ _ _ _ m (fun k hk hkd=>absurd ⟨k,hk,hkd⟩ hex)]
     unfold putS
     rw[xS _ _ _ _ i (fun k hk hkd=>absurd ⟨k,by omega,hkd⟩ hex)]
   have hob':=hob x i him w hS (fun k hk=>hV k (by have:=xt hok i hlt k hk;omega) (hreach k hk))
   have hsz1:=xr (ops:=ops) (fun _=>true) x a0 i
   -- what comes behind
   have next:∀ v w',(V.getD i VAny).p v w'→Below w.heap.size w w'→wpAny P .any ops Q (ops.size-m+c) (listed.setIfInBounds i true) ((putD ops (fun i=>listed.getD i false) x a0 m).put (some d) v) w':=fun v w' hv hb=>by
    have hput:=uN (ops:=ops) (fun k=>listed.getD k false) (fun k=>(listed.setIfInBounds i true).getD k false) x (fun k=>if k=i then v else x k) a0 i hil'
     (by simp[hsz,hlt]) (fun k hk=>⟨by rw[getD_set_ne _ (Ne.symm hk)],by simp[hk]⟩) m him
     (fun d' k hk hki hd'=>by rw[hdst]at hd';injection hd' with hd';exact hd'▸hduniq k hk hki)
    simp only[if_true]at hput
    rw[← hdst,hput]
    refine ih (U.erase i) _ _ _ ?_ (hnd.erase _) (fun k=>?_) (by simpa using hsz) (fun k h1 h2=>?_) (fun j oj hoj hj e he hb'=>?_) (hSt _ _ hS hb) (fun k hk hkl=>?_)
    ·rw[List.length_erase_of_mem ((hmem i).2 ⟨him,hil'⟩),hU];rfl
    ·rw[hnd.mem_erase_iff,hmem]
     by_cases hk:k=i
     ·subst hk;simp[hsz,hlt]
     ·rw[getD_set_ne _ (Ne.symm hk)];simp[hk]
    ·rw[getD_set_ne _ (by omega)];exact hun k h1 h2
    ·by_cases hji:j=i
     ·subst hji
      rw[ho]at hoj;injection hoj with hoj;subst hoj
      exact getD_set_true (hdeps e he hb')
     ·rw[getD_set_ne _ (Ne.symm hji)]at hj
      exact getD_set_true (hcl j oj hoj hj e he hb')
    ·by_cases hki:k=i
     ·subst hki;simpa using hv
     ·rw[getD_set_ne _ (Ne.symm hki)]at hkl
      simp only[hki,if_false]
      exact (V.getD k VAny).st _ _ _ (hV k hk hkl) hb
   unfold wpOp at hob' ⊢
   simp only[ho]at hob' ⊢
   rw[uU hagree]
   split
   ·rename_i hw
    rw[if_pos hw]at hob'
    rcases hob' with h | ⟨_,h⟩
    case inr=>exact absurd h NoWay.lets
    refine .inl (Oper.wp_mono ?_ (ja (Q:=Q) (d:=d) (R:=fun v w'=>(V.getD i VAny).p v w'∧Below w.heap.size w w') (uB hso hagree) hd (by unfold putS;rw[hsz1.1];exact hdsz)
     (Oper.wp_mono (fun a' w' ⟨v,h1,h2,h3,h4⟩=>⟨v,h1 d hdst,by unfold putS;rw[hsz1.2];exact h2,h3,h4⟩) h)))
    rintro a' w' ⟨v,rfl,hv,hb⟩
    exact next v w' hv hb
   ·rename_i hw
    rw[if_neg hw]at hob'
    obtain⟨v,h1,_,h3,h4⟩:=hob'
    have hvu:v=undef:=by
     have:=h1 d hdst
     rw[hd]at this
     simp[Act.put,putS,hsz1.1,hdsz]at this
     exact this.symm
    rw[hd]
    exact next undef w (hvu▸h3) h4
theorem yiB {id m:Nat} (R:List (List Nat)) (V:List VP) (S:World→Prop) {a0:Act} {w:World} (hm:P.follows .mixedOrders=true) (hok:yZ ops m a0.tmps.size R=true)
 (hS0:S w.drew) (hSt:∀ w w',S w→Below w.heap.size w w'→S w') (hob:∀ x j,j<m→Ob P ops S R V x a0 j)
 (hend:∀ x w',S w'→(∀ i,i<m→(V.getD i VAny).p (x i) w')→wpAny P .any ops Q (ops.size-m) (yx ops.size m) (putS ops x a0 m) w'):(Code.region id ops true).wp P Q a0 w:=by
 have hmn:=(vu hok).1
 have hf:∀ i,(Array.replicate ops.size false).getD i false=false:=fun i=>by simp[Array.getD]
 have h:=yhR (Q:=Q) hok hSt hob hend m (List.range m) (Array.replicate ops.size false) w.drew (fun _=>undef) (by simp) List.nodup_range (fun i=>by rw[hf];simp) (by simp) (fun i _ _=>hf i) (fun j o _ hj=>by rw[hf]at hj;cases hj) hS0
  (fun i _ hi=>by rw[hf]at hi;cases hi)
 refine wp_region_any hm ?_
 rw[show ops.size-m+m=ops.size by omega,xq (ops:=ops) _ (fun _=>false) _ (fun _=>undef) a0 m (fun i _=>⟨hf i,fun _=>rfl⟩)]at h
 have e:∀ n,putD ops (fun _=>false) (fun _=>undef) a0 n=a0:=fun n=>by
  induction n with
  | zero=>rfl
  | succ n ih=>unfold putD;simpa using ih
 rw[e]at h
 exact h
def Obs (P:Program) (ops:Array Oper) (Q:Exit→Act→World→Prop) (S:World→Prop) (R:List (List Nat)) (V:List VP) (x:Nat→Value):Nat→Nat→Act→Prop
 | 0,j,a=>∀ w,S w→(∀ i,i<j→(V.getD i VAny).p (x i) w)→wpAny P .any ops Q (ops.size-j) (yx ops.size j) a w
 | r+1,j,a=>(∀ w,S w→(∀ i∈R.getD j [],(V.getD i VAny).p (x i) w) →
  wpOp P ops NoWay j (fun a' w'=>∃ v,(∀ d,yg ops j=some d→a'.tmps[d]? = some v)∧a'.defers=a.defers∧(V.getD j VAny).p v w'∧Below w.heap.size w w') a w) ∧
  Obs P ops Q S R V x r (j+1) (a.put (yg ops j) (x j))
theorem ycp {S:World→Prop} {R:List (List Nat)} {V:List VP} {x:Nat→Value} {a0:Act}:∀ (r j:Nat),Obs P ops Q S R V x r j (putS ops x a0 j) →
 (∀ k,j≤k→k<j+r→Ob P ops S R V x a0 k) ∧ ∀ w,S w→(∀ i,i<j+r→(V.getD i VAny).p (x i) w)→wpAny P .any ops Q (ops.size-(j+r)) (yx ops.size (j+r)) (putS ops x a0 (j+r)) w:=by
 intro r
 induction r with
 | zero=>intro j h;exact⟨fun k h1 h2=>by omega,h⟩
 | succ r ih=>
  intro j h
  obtain⟨h1,h2⟩:=h
  have h2':Obs P ops Q S R V x r (j+1) (putS ops x a0 (j+1)):=h2
  obtain⟨h3,h4⟩:=ih (j+1) h2'
  refine⟨fun k hk1 hk2=>?_,by rw[show j+(r+1)=j+1+r by omega];exact h4⟩
  by_cases hk:k=j
  ·subst hk
   intro w hS hV
   have h:=h1 w hS hV
   rw[show (putS ops x a0 k).defers=a0.defers from (xr _ _ _ _).2]at h
   exact h
  ·exact h3 k (by omega) (by omega)
theorem yh {id:Nat} (m:Nat) (R:List (List Nat)) (V:List VP) (S:World→Prop) {a0:Act} {w:World} (hm:P.follows .mixedOrders=true) (hok:yZ ops m a0.tmps.size R=true)
 (hSt:∀ w w',S w→Below w.heap.size w w'→S w') (hS0:S w.drew) (h:∀ x,Obs P ops Q S R V x m 0 a0):(Code.region id ops true).wp P Q a0 w:=
 yiB (m:=m) R V S hm hok hS0 hSt (fun x j hj=>(ycp m 0 (h x)).1 j (by omega) (by omega)) (fun x w' hS hV=>by
  have:=(ycp m 0 (h x)).2 w' hS (by rw[Nat.zero_add];exact hV)
  rwa [Nat.zero_add]at this)
theorem ygv {S:World→Prop} {R:List (List Nat)} {V:List VP} {x:Nat→Value} {r j:Nat} {a:Act} {o:Oper} {d:Tmp} (ho:ops[j]? = some o) (hd:o.dst=some d)
 (h:∀ w,S w→(∀ i∈R.getD j [],(V.getD i VAny).p (x i) w) → ∀ K:Act→World→Prop,Shut (∀ a' w' v,a'.tmps[d]? = some v→a'.defers=a.defers→(V.getD j VAny).p v w'→Below w.heap.size w w'→K a' w') →
  if Region.wanted o (yielded ops a.tmps)=true then Oper.wp P o a w K NoWay else K (a.put o.dst undef) w)
 (hr:Obs P ops Q S R V x r (j+1) { a with tmps:=a.tmps.setIfInBounds d (x j) }):Obs P ops Q S R V x (r+1) j a:=by
 have hdst:yg ops j=some d:=by simp[yg,ho,hd]
 refine⟨fun w hS hV=>wpOp_step ho (fun K hK=>?_),by rw[hdst];exact hr⟩
 exact h w hS hV K (fun a' w' v h1 h2 h3 h4=>hK a' w' ⟨v,fun d' hd'=>by rw[hdst]at hd';injection hd' with hd';exact hd'▸h1,h2,h3,h4⟩)
theorem zS {S:World→Prop} {R:List (List Nat)} {V:List VP} {x:Nat→Value} {r j:Nat} {a a':Act} {o:Oper} {d:Tmp}
 (h:∀ w,S w→(∀ i∈R.getD j [],(V.getD i VAny).p (x i) w) → ∀ K:Act→World→Prop,Shut (∀ a' w' v,a'.tmps[d]? = some v→a'.defers=a.defers→(V.getD j VAny).p v w'→Below w.heap.size w w'→K a' w') →
  if Region.wanted o (yielded ops a.tmps)=true then Oper.wp P o a w K NoWay else K (a.put o.dst undef) w)
 (hr:Obs P ops Q S R V x r (j+1) a') (ho:ops[j]? = some o:=by exact Eq.trans (by simp only[zA,zB,zC];exact rfl) rfl) (hd:o.dst=some d:=by exact rfl)
 (ha:{ a with tmps:=a.tmps.setIfInBounds d (x j) } = a':=by simp only[zD,zE,zF];exact rfl):Obs P ops Q S R V x (r+1) j a:=by
 subst ha
 exact ygv ho hd h hr
theorem zQ {L:List Nat} {V:List VP} {x:Nat→Value} {w:World} (hV:∀ i∈L,(V.getD i VAny).p (x i) w) (i:Nat) {u:Value} (hm:i∈L:=by decide) (hu:V.getD i VAny=VIs u:=by exact rfl):x i=u:=by
 have h:=hV i hm
 rw[hu]at h
 exact h
theorem zO {d B:Nat} {p:Value→World→Prop} {K:Act→World→Prop} {a a':Act} {w:World} {v:Value} (hK:Shut (∀ a' w' v,a'.tmps[d]? = some v→a'.defers=a.defers→p v w'→Go.RowKit.Below B w w'→K a' w'))
 (h1:a'.tmps[d]? = some v:=by exact rfl) (h2:a'.defers=a.defers:=by exact rfl) (h3:p v w:=by exact rfl):K a' w:=hK.out _ _ _ h1 h2 h3 (Go.RowKit.Below.refl _ _)
theorem zT {n:Nat} {V:List VP} {x:Nat→Value} {w:World} (hV:∀ i,i<n→(V.getD i VAny).p (x i) w) (i:Nat) {u:Value} (hm:i<n:=by decide) (hu:V.getD i VAny=VIs u:=by exact rfl):x i=u:=by
 have h:=hV i hm
 rw[hu]at h
 exact h
theorem yK {fuel j:Nat} {listed:Array Bool} {a:Act} {w:World} {o:Oper} (hr:Region.ready .any ops listed=[j]) (ho:ops[j]? = some o)
 (h:∀ K:Act→World→Prop,Shut (∀ a w,wpAny P .any ops Q fuel (listed.setIfInBounds j true) a w→K a w)→if Region.wanted o (yielded ops a.tmps)=true then Oper.wp P o a w K Q else K (a.put o.dst undef) w) :
 wpAny P .any ops Q (fuel+1) listed a w:=
 wpAny_all hr (by simp) (fun i hi=>by
  obtain rfl:i=j:=by simpa using hi
  exact wpOp_step ho (fun K hK=>h K hK))
theorem xg {fuel j:Nat} {listed:Array Bool} {a:Act} {w:World} {o:Oper} (hr:Region.ready .any ops listed=[j]) (ho:ops[j]? = some o) (hg:o.guard=none)
 (h:∀ K:Act→World→Prop,Shut (∀ a w,wpAny P .any ops Q fuel (listed.setIfInBounds j true) a w→K a w)→Oper.wp P o a w K Q):wpAny P .any ops Q (fuel+1) listed a w:=
 yK hr ho (fun K hK=>by
  have:Region.wanted o (yielded ops a.tmps)=true:=by unfold Region.wanted;rw[hg]
  rw[if_pos this]
  exact h K hK)
end
theorem uW:∀ x:Nat,x<64 → ∀ y:Nat,y<64→bits BinOp.xor IntKind.i64 (x:Int) (y:Int)=((x ^^^ y:Nat):Int):=by decide +kernel
theorem zV {n x y:Nat} (hx:x<pw n) (hy:y<pw n):x ^^^ y<pw n:=Nat.xor_lt_two_pow hx hy
theorem yi (n:Int) (h1:-1000000000000≤n) (h2:n≤1000000000000):IntKind.i64.wrap n=n:=by rw[IntWalk.i64_left];exact yiG n h1 h2
theorem zp {w w':World} {g n c:Nat} {L:List Int} (h:MkI w w' (some ⟨g,0,none⟩) n c L) {i:Nat} (hi:i<n):w'.cell? ⟨g,i,none⟩=some (.int .i64 (L.getD i 0))∧w'.frozen? ⟨g,i,none⟩=false:=by
 have hl:L.length=n:=by have:=h.2.len;rwa [yD]at this
 obtain⟨g',o,e,hx,hc⟩:=Rd.int h.rd hi
 injection e with e;injection e with e1 e2 _
 subst e1;subst e2
 rw[Nat.zero_add]at hc
 exact⟨by rw[hc,List.getD_eq_getElem?_getD,List.getElem?_eq_getElem hx];rfl,h.2.frozen_ i⟩
theorem ygp {x k:Int} (x1:0≤x) (x2:x≤13) (k1:-1000≤k) (k2:k≤1000):-13000≤k*x∧k*x≤13000:=by
 have h1:=Int.mul_le_mul_of_nonneg_right k2 x1
 have h2:=Int.mul_le_mul_of_nonneg_right k1 x1
 omega
set_option maxHeartbeats 800000 in
set_option maxRecDepth 8000 in
theorem qL (p:Int) (A:Option Addr) (n c:Nat) (B:Option Addr) (m d:Nat) (k:Int) (xs ys:List Int) (w:World) (hp:2≤p) (hp2:p≤13) (hn:n≤65536) (hnm:n≤m) (ha:Rd w A n (ints xs)) (hx:NumsL p xs) (hb:Rd w B m (ints ys)) (hy:NumsL p ys) (hk1:-1000≤k) (hk2:k≤1000) :
 Calls Tryz.prog 58 #[.int .i64 p,.slice A n c,.slice B m d,.int .i64 k] w fun e w'=>∃ A' c',e=.returned (.slice A' n c')∧MkI w w' A' n c' (yp p xs ys k):=by
 have hxl:xs.length=n:=by have:=ha.1;rwa [yD]at this
 have Hx:=Lib.hid hxl;clear hxl
 have hM0:=Mk.lit (E:=2) (Below.refl w.heap.size w) #[] (by simp)
 go_enter Tryz.func58,Tryz.ntmps58
 go_wp2
 go_loopw [9,10,11,15] (fun out _ _ i wr=>∃ (j:Nat) (A':Option Addr) (c':Nat),j≤n∧i=.int .i64 j∧out=.slice A' j c'∧MkI w wr A' j c' (tab j fun i=>(xs.getD i 0+k*ys.getD i 0)%p)) (fun _ _ _ i _=>n-(intOf i).toNat)
 case atStart=>exact⟨0,_,_,by omega,rfl,rfl,by simpa [MkI,ints,tab] using hM0⟩
 case round=>
  obtain⟨j,A',c',hj,rfl,rfl,hM⟩:=hrel
  clear hM0
  by_cases hlt:j<n
  ·obtain⟨g,o,rfl,hxj,hcx⟩:=(ha.below hM.b).int hlt
   obtain⟨g2,o2,rfl,hyj,hcy⟩:=(hb.below hM.b).int (show j<m by omega)
   obtain⟨x1,x2⟩:=hx _ (List.getElem_mem hxj)
   obtain⟨y1,y2⟩:=hy _ (List.getElem_mem hyj)
   obtain⟨m1,m2⟩:=ygp y1 (show ys[j]≤13 by omega) hk1 hk2
   have HV:Hid ((tab (j+1) fun i=>(xs.getD i 0+k*ys.getD i 0)%p)=(tab j fun i=>(xs.getD i 0+k*ys.getD i 0)%p)++[(xs[j]+k*ys[j])%p]):=Lib.hid (by rw[yQ,yc 0 hxj,yc 0 hyj])
   have HM:=Lib.hid hM
   clear ha hb hM
   go_wp2_with (first
    | (go_at_call 86;refine (zN _ (xs[j]+k*ys[j]) _ (by omega) hp2 (by omega) (by omega)).mono ?_;rintro e w' ⟨rfl,rfl⟩)
    | (at_builtin;refine yt w _ 24 2 _ _ Tryz.underlying24 yo rfl (by omega) rfl _ _ rfl A' j c' _ _ HM.out (by omega) rfl rfl rfl ?_;intro A2 c2 w2 hM2 _ _))
   go_roundw
   case rel=>exact⟨j+1,A2,c2,by omega,by go_num,rfl,by rw[HV.out];simpa [MkI,ints] using hM2⟩
   case measure=>simp[intOf];omega
  ·go_wp2
   go_ret
   obtain rfl:j=n:=by omega
   exact⟨_,_,rfl,by unfold yp;rw[Hx.out];exact hM⟩
end Go.Proofs.YtaiegpggccdgoaaGreat
namespace Go.Proofs.YtaiegpggccdgoaaGreat
theorem zl {n:Nat} {f:Nat→Int} (h:∀ i,i<n→f i=0):ya n f=0:=by
 induction n with
 | zero=>rfl
 | succ n ih=>rw[y8,ih (fun i hi=>h i (by omega)),h n (by omega)];rfl
theorem yF {n:Nat} {f:Nat→Int} (k:Nat) (hk:k<n) (h:∀ i,i<n→i≠k→f i=0):ya n f=f k:=by
 induction n with
 | zero=>omega
 | succ n ih=>
  rw[y8]
  by_cases e:k=n
  ·subst e;rw[zl (fun i hi=>h i (by omega) (by omega)),Int.zero_add]
  ·rw[ih (by omega) (fun i hi=>h i (by omega)),h n (by omega) (by omega),Int.add_zero]
theorem z5 (n:Nat) (f g:Nat→Int):ya n (fun i=>f i+g i)=ya n f+ya n g:=by
 induction n with
 | zero=>rfl
 | succ n ih=>rw[y8,y8,y8,ih];omega
theorem y7 (n:Nat) (f:Nat→Int) (c:Int):ya n (fun i=>c*f i)=c*ya n f:=by
 induction n with
 | zero=>simp[ya]
 | succ n ih=>rw[y8,y8,ih,Int.mul_add]
theorem vt (n m:Nat) (f:Nat→Nat→Int):ya n (fun i=>ya m (f i))=ya m (fun j=>ya n (fun i=>f i j)):=by
 induction n with
 | zero=>exact (zl (fun _ _=>rfl)).symm
 | succ n ih=>rw[y8,ih,← z5];rfl
theorem zo {p a b c d:Int} (h:a%p=b%p) (h':c%p=d%p):(a+c)%p=(b+d)%p:=by rw[Int.add_emod,h,h',← Int.add_emod]
theorem z7 {p a b c d:Int} (h:a%p=b%p) (h':c%p=d%p):a*c%p=b*d%p:=by rw[Int.mul_emod,h,h',← Int.mul_emod]
theorem yM (p a:Int):a%p%p=a%p:=Int.emod_emod_of_dvd _ (Int.dvd_refl p)
theorem yhL {n:Nat} {f:Nat→Int} (a b:Nat) (ha:a<n) (hb:b<n) (hab:a≠b) (h:∀ i,i<n→i≠a→i≠b→f i=0):ya n f=f a+f b:=by
 have e:ya n f=ya n (fun i=>(if i=a then f i else 0)+(if i=a then 0 else f i)):=yw fun i _=>by split<;>omega
 rw[e,z5,yF (f:=fun i=>if i=a then f i else 0) a ha (fun i _ hi=>if_neg hi),yF (f:=fun i=>if i=a then 0 else f i) b hb (fun i hi hib=>by
  by_cases hia:i=a
  ·exact if_pos hia
  ·simp only[if_neg hia];exact h i hi hia hib)]
 rw[if_pos rfl,if_neg (Ne.symm hab)]
theorem jS {α:Type} (d:α) {xs:List α} (ys:List α) {i:Nat} (h:i<xs.length):(xs++ys).getD i d=xs.getD i d:=by
 rw[yc d h,yc d (by rw[List.length_append];omega),List.getElem_append_left h]
theorem qr {α:Type} (d:α) (xs ys:List α) (i:Nat):(xs++ys).getD (xs.length+i) d=ys.getD i d:=by
 by_cases h:i<ys.length
 ·rw[yc d h,yc d (by rw[List.length_append];omega),List.getElem_append_right (by omega)]
  congr 1;omega
 ·rw[vR d (show ys.length≤i by omega),vR d (show (xs++ys).length≤xs.length+i by rw[List.length_append];omega)]
def Sp (p:Int) (n:Nat) (m:List (List Int)) (v:Nat→Int):Prop:=∃ c:Nat→Int,∀ q,q<n→v q%p=(ya m.length fun i=>c i*ent m i q)%p
theorem Sp.congr {p:Int} {n:Nat} {m:List (List Int)} {v u:Nat→Int} (h:Sp p n m v) (e:∀ q,q<n→v q%p=u q%p):Sp p n m u:=by
 obtain⟨c,hc⟩:=h
 exact⟨c,fun q hq=>(e q hq).symm.trans (hc q hq)⟩
theorem Sp.zero (p:Int) (n:Nat) (m:List (List Int)):Sp p n m fun _=>0:=⟨fun _=>0,fun q _=>by rw[zl fun i _=>Int.zero_mul _]⟩
theorem Sp.add {p:Int} {n:Nat} {m:List (List Int)} {v u:Nat→Int} (h:Sp p n m v) (h':Sp p n m u):Sp p n m fun q=>v q+u q:=by
 obtain⟨c,hc⟩:=h
 obtain⟨d,hd⟩:=h'
 refine⟨fun i=>c i+d i,fun q hq=>?_⟩
 rw[yw (g:=fun i=>c i*ent m i q+d i*ent m i q) fun i _=>Int.add_mul _ _ _,z5]
 exact zo (hc q hq) (hd q hq)
theorem Sp.mul {p:Int} {n:Nat} {m:List (List Int)} {v:Nat→Int} (h:Sp p n m v) (k:Int):Sp p n m fun q=>k*v q:=by
 obtain⟨c,hc⟩:=h
 refine⟨fun i=>k*c i,fun q hq=>?_⟩
 rw[yw (g:=fun i=>k*(c i*ent m i q)) fun i _=>Int.mul_assoc _ _ _,y7]
 exact z7 rfl (hc q hq)
theorem Sp.row {p:Int} {n:Nat} {m:List (List Int)} {i:Nat} (hi:i<m.length):Sp p n m fun q=>ent m i q:=by
 refine⟨fun j=>if j=i then 1 else 0,fun q _=>?_⟩
 rw[yF (f:=fun j=>(if j=i then 1 else 0)*ent m j q) i hi (fun j _ hj=>by simp only[if_neg hj,Int.zero_mul])]
 simp
theorem Sp.mem {p:Int} {n:Nat} {m:List (List Int)} {x:List Int} (hx:x∈m):Sp p n m fun q=>x.getD q 0:=by
 obtain⟨i,hi,rfl⟩:=List.getElem_of_mem hx
 refine (Sp.row hi).congr fun q _=>?_
 unfold ent;rw[yc [] hi]
theorem Sp.sum {p:Int} {n:Nat} {m:List (List Int)} (k:Nat) {f:Nat→Nat→Int} (h:∀ i,i<k→Sp p n m (f i)):Sp p n m fun q=>ya k fun i=>f i q:=by
 induction k with
 | zero=>exact Sp.zero p n m
 | succ k ih=>exact (ih fun i hi=>h i (by omega)).add (h k (by omega))
def InSp (p:Int) (n:Nat) (m m':List (List Int)):Prop:=∀ i,i<m.length→Sp p n m' fun q=>ent m i q
theorem InSp.sp {p:Int} {n:Nat} {m m':List (List Int)} (h:InSp p n m m') {v:Nat→Int} (hv:Sp p n m v):Sp p n m' v:=by
 obtain⟨c,hc⟩:=hv
 exact (Sp.sum m.length fun i hi=>(h i hi).mul (c i)).congr fun q hq=>(hc q hq).symm
theorem InSp.refl (p:Int) (n:Nat) (m:List (List Int)):InSp p n m m:=fun _ hi=>Sp.row hi
theorem InSp.trans {p:Int} {n:Nat} {m m' m2:List (List Int)} (h:InSp p n m m') (h':InSp p n m' m2):InSp p n m m2:=fun i hi=>h'.sp (h i hi)
theorem InSp.of_mem {p:Int} {n:Nat} {m m':List (List Int)} (h:∀ x∈m,Sp p n m' fun q=>x.getD q 0):InSp p n m m':=fun i hi=>
 (h _ (List.getElem_mem hi)).congr fun q _=>by unfold ent;rw[yc [] hi]
theorem InSp.of_sub {p:Int} {n:Nat} {m m':List (List Int)} (h:∀ x∈m,x∈m'):InSp p n m m':=InSp.of_mem fun x hx=>Sp.mem (h x hx)
theorem InSp.append {p:Int} {n:Nat} {m1 m2 m':List (List Int)} (h1:InSp p n m1 m') (h2:InSp p n m2 m'):InSp p n (m1++m2) m':=InSp.of_mem fun x hx=>by
 rcases List.mem_append.1 hx with h | h
 ·exact h1.sp (Sp.mem h)
 ·exact h2.sp (Sp.mem h)
theorem uu {p a b:Int} (ha:0≤a∧a<p) (hb:0≤b∧b<p) (h:a%p=b%p):a=b:=by
 rwa [Int.emod_eq_of_lt ha.1 ha.2,Int.emod_eq_of_lt hb.1 hb.2]at h
theorem yhe {p:Int} (hP:isP p=true) {n:Nat} {m:List (List Int)} (hT:Tab p n m) {k d:Nat} (hd:d<m.length) (hv:yR m k d<m.length) :
 InSp p n (yV p m k d) m∧InSp p n m (yV p m k d):=by
 have hp:2≤p:=by have:=yk hP;omega
 have hlen:=ue p m k d
 have hE:=fun r q hq=>ybh (p:=p) (k:=k) rfl hd hv hT r q hq
 obtain⟨hb1,hb2⟩:=qK m k d (by omega)
 have hx:ent m (yR m k d) k≠0:=ycz m k _ _ (by unfold yR at hv;omega)
 obtain⟨x1,x2⟩:=hT.ent (by omega) (yR m k d) k
 obtain⟨i1,i2,i3⟩:=vU hP (show 0<ent m (yR m k d) k by omega) x2
 have hinv:ent m (yR m k d) k*invF p (ent m (yR m k d) k)%p=1:=(i3 _ (by omega) i2).2 rfl
 obtain⟨v,hv'⟩:∃ v,v=yR m k d:=⟨_,rfl⟩
 rw[← hv']at hE hx x1 x2 hinv hv hb1 hb2
 obtain⟨y,hy⟩:∃ y,y=invF p (ent m v k):=⟨_,rfl⟩
 rw[← hy]at hE hinv
 constructor
 ·intro r hr
  rw[hlen]at hr
  by_cases h1:r=d
  ·refine ((Sp.row hv).mul y).congr fun q hq=>?_
   rw[hE r q hq,if_pos h1,yM,Int.mul_comm]
  ·by_cases h2:r=v
   ·refine (Sp.row hd).congr fun q hq=>?_
    rw[hE r q hq,if_neg h1,if_pos h2]
   ·refine (Sp.row hr).congr fun q hq=>?_
    rw[hE r q hq,if_neg h1,if_neg h2]
 ·intro r hr
  by_cases h2:r=v
  ·refine ((Sp.row (show d<(yV p m k d).length by omega)).mul (ent m v k)).congr fun q hq=>?_
   rw[hE d q hq,if_pos rfl,h2]
   have e1:ent m v k*(ent m v q*y%p)%p=ent m v k*(ent m v q*y)%p:=z7 rfl (yM _ _)
   have e2:ent m v k*(ent m v q*y)=ent m v q*(ent m v k*y):=by rw[Int.mul_comm (ent m v q) y,← Int.mul_assoc,Int.mul_comm]
   rw[e1,e2]
   have e3:ent m v q*(ent m v k*y)%p=ent m v q*1%p:=z7 rfl (by rw[hinv,Int.emod_eq_of_lt (by omega) (by omega)])
   rw[e3,Int.mul_one]
  ·by_cases h1:r=d
   ·refine (Sp.row (show v<(yV p m k d).length by omega)).congr fun q hq=>?_
    rw[hE v q hq,if_neg (fun e=>h2 (h1.trans e.symm)),if_pos rfl,h1]
   ·refine (Sp.row (show r<(yV p m k d).length by omega)).congr fun q hq=>?_
    rw[hE r q hq,if_neg h1,if_neg h2]
theorem yd6 {p:Int} {n:Nat} {m:List (List Int)} (hT:Tab p n m) {k d:Nat} (hd:d<m.length) :
 InSp p n (yS p m d k m.length) m∧InSp p n m (yS p m d k m.length):=by
 have hlen:=vl p m d k m.length
 have hE:=fun r q hr hq=>ybg (p:=p) hT d k r q hr hq
 constructor
 ·intro r hr
  rw[hlen]at hr
  by_cases h1:r=d
  ·refine (Sp.row hd).congr fun q hq=>?_
   rw[hE r q hr hq,if_pos h1]
  ·refine ((Sp.row hr).add ((Sp.row hd).mul (-(ent m r k)))).congr fun q hq=>?_
   rw[hE r q hr hq,if_neg h1,yM]
 ·intro r hr
  by_cases h1:r=d
  ·refine (Sp.row (show d<(yS p m d k m.length).length by omega)).congr fun q hq=>?_
   rw[hE d q hd hq,if_pos rfl,h1]
  ·refine ((Sp.row (show r<(yS p m d k m.length).length by omega)).add ((Sp.row (show d<(yS p m d k m.length).length by omega)).mul (ent m r k))).congr fun q hq=>?_
   rw[hE r q hr hq,if_neg h1,hE d q hd hq,if_pos rfl]
   refine (zo (yM _ _) rfl).trans ?_
   congr 1
   rw[Int.neg_mul];omega
theorem yhz {p:Int} (hP:isP p=true) {n:Nat} {s:List (List Int) × Nat} {k:Nat} (hT:Tab p n s.1) (hd:s.2≤s.1.length):InSp p n (zk p k s).1 s.1∧InSp p n s.1 (zk p k s).1:=by
 unfold zk
 split
 ·exact⟨InSp.refl _ _ _,InSp.refl _ _ _⟩
 ·rename_i hne
  have hb:=qK s.1 k s.2 hd
  have hp:2≤p:=by have:=yk hP;omega
  obtain⟨a1,a2⟩:=yhe (k:=k) hP hT (show s.2<s.1.length by omega) (by omega)
  obtain⟨b1,b2⟩:=yd6 (k:=k) (d:=s.2) (qR (p:=p) (k:=k) (by omega) hT (show s.2<s.1.length by omega) (by omega)) (by rw[ue];omega)
  rw[ue]at b1 b2
  exact⟨b1.trans a1,a2.trans b2⟩
theorem ydG {p:Int} (hP:isP p=true) {n:Nat} (m:List (List Int)) (hT:Tab p n m) (k:Nat) (hk:k≤n):InSp p n (yu p m k).1 m∧InSp p n m (yu p m k).1:=by
 have hp:2≤p:=by have:=yk hP;omega
 induction k with
 | zero=>exact⟨InSp.refl _ _ _,InSp.refl _ _ _⟩
 | succ k ih=>
  obtain⟨h1,h2⟩:=ih (by omega)
  obtain⟨t1,t2,t3⟩:=vy (p:=p) (by omega) m hT k
  obtain⟨g1,g2⟩:=yhz (k:=k) hP (s:=yu p m k) t1 (by omega)
  exact⟨g1.trans h1,h2.trans g2⟩
theorem vN {p:Int} (hP:isP p=true) {n:Nat} (m:List (List Int)) (hT:Tab p n m):InSp p n (yf p m) m∧InSp p n m (yf p m):=by
 have hp:2≤p:=by have:=yk hP;omega
 by_cases h0:0<m.length
 ·have hl:=qP hT h0
  obtain⟨a1,a2⟩:=ydG hP m hT n (Nat.le_refl _)
  obtain⟨c,hc⟩:=yaP hP m hT n (Nat.le_refl _)
  obtain⟨h1,h2,h3⟩:=vy (p:=p) (by omega) m hT n
  have e:yf p m=(yu p m n).1.take (yu p m n).2:=by unfold yf;rw[hl]
  constructor
  ·refine InSp.trans (InSp.of_sub fun x hx=>?_) a1
   rw[e]at hx
   exact List.mem_of_mem_take hx
  ·refine a2.trans fun i hi=>?_
   by_cases hid:i<(yu p m n).2
   ·refine (Sp.mem (x:=(yu p m n).1[i]) ?_).congr fun q _=>by unfold ent;rw[yc [] hi]
    rw[e]
    exact List.mem_take_iff_getElem.2 ⟨i,by omega,rfl⟩
   ·exact (Sp.zero _ _ _).congr fun q hq=>by rw[hc.rest i (by omega) hi q hq]
 ·obtain rfl:m=[]:=List.eq_nil_of_length_eq_zero (by omega)
  rw[jf]
  exact⟨InSp.refl _ _ _,InSp.refl _ _ _⟩
theorem Red.coef {p:Int} {n:Nat} {B:List (List Int)} (hR:Red n B) {v:Nat→Int} (hv:Sp p n B v):∀ q,q<n→v q%p=(ya B.length fun i=>v (ld B i)*ent B i q)%p:=by
 obtain⟨c,hc⟩:=hv
 intro q hq
 rw[hc q hq]
 refine yW p fun i hi=>z7 ?_ rfl
 rw[hc _ (hR.lt i hi),yF (f:=fun j=>c j*ent B j (ld B i)) i hi (fun j hj hji=>by rw[hR.zero i j hi hj hji,Int.mul_zero]),hR.one i hi,Int.mul_one]
theorem Red.lead_of {p:Int} {n:Nat} {B:List (List Int)} (hR:Red n B) {v:Nat→Int} (hv:Sp p n B v) {q0:Nat} (hq:q0<n) (h0:v q0%p≠0) (hb:∀ q,q<q0→v q%p=0):∃ i,i<B.length∧ld B i=q0:=by
 refine Classical.byContradiction fun hno=>h0 ?_
 rw[hR.coef hv q0 hq]
 refine (yW p (g:=fun _=>0) fun i hi=>?_).trans (by rw[zl fun _ _=>rfl];rfl)
 rcases Nat.lt_trichotomy (ld B i) q0 with h | h | h
 ·rw[Int.mul_emod,hb _ h];simp
 ·exact absurd ⟨i,hi,h⟩ hno
 ·rw[hR.before i q0 h,Int.mul_zero]
theorem Red.leads_le {p:Int} (hp:2≤p) {n:Nat} {B C:List (List Int)} (hB:Red n B) (hC:Red n C) (h1:InSp p n B C) (h2:InSp p n C B):∀ i,i<B.length→i<C.length∧ld C i=ld B i:=by
 have one:∀ (B C:List (List Int)),Red n B→Red n C→InSp p n B C → ∀ i,i<B.length → ∃ j,j<C.length∧ld C j=ld B i:=fun B C hB hC h i hi=>
  hC.lead_of (h i hi) (hB.lt i hi) (by rw[hB.one i hi,Int.emod_eq_of_lt (by omega) (by omega)];omega) (fun q hq=>by rw[hB.before i q hq];simp)
 intro i
 induction i using Nat.strongRecOn with
 | _ i ih=>
  intro hi
  obtain⟨j,hj,e⟩:=one B C hB hC h1 i hi
  have hij:i≤j:=by
   refine Nat.le_of_not_lt fun hlt=>?_
   have:=(ih j hlt (by omega)).2
   have:=hB.inj (i:=j) (j:=i) (by omega) hi (by omega)
   omega
  have hic:i<C.length:=by omega
  refine⟨hic,?_⟩
  rcases Nat.lt_or_ge i j with hlt | hge
  ·obtain⟨k,hk,e2⟩:=one C B hC hB h2 i hic
   have m1:=hC.mono i j hlt hj
   rcases Nat.lt_trichotomy k i with h | h | h
   ·have:=(ih k h (by omega)).2
    have:=hC.inj (i:=k) (j:=i) (by omega) hic (by omega)
    omega
   ·subst h;omega
   ·have:=hB.mono i k h hk;omega
  ·obtain rfl:i=j:=by omega
   exact e
theorem Red.unique {p:Int} (hp:2≤p) {n:Nat} {B C:List (List Int)} (hB:Red n B) (hC:Red n C) (TB:Tab p n B) (TC:Tab p n C) (h1:InSp p n B C) (h2:InSp p n C B):B=C:=by
 have a:=hB.leads_le hp hC h1 h2
 have b:=hC.leads_le hp hB h2 h1
 have hl:B.length=C.length:=by
  rcases Nat.lt_trichotomy B.length C.length with h | h | h
  ·have:=(b B.length h).1;omega
  ·exact h
  ·have:=(a C.length h).1;omega
 refine yU [] hl fun i hi=>?_
 have hic:i<C.length:=by omega
 obtain⟨r1,r2⟩:=TB.row hi
 obtain⟨s1,s2⟩:=TC.row hic
 refine yU 0 (by omega) fun q hq=>?_
 rw[r1]at hq
 refine uu (p:=p) (TB.ent (by omega) i q) (TC.ent (by omega) i q) ?_
 show ent B i q%p=ent C i q%p
 rw[hC.coef (h1 i hi) q hq]
 congr 1
 rw[yF (f:=fun j=>ent B i (ld C j)*ent C j q) i hic (fun j hj hji=>by
  rw[← (b j hj).2,hB.zero j i (by omega) hi (Ne.symm hji),Int.zero_mul]),(a i hi).2,hB.one i hi,Int.one_mul]
def Orth (p:Int) (n:Nat) (m:List (List Int)) (v:Nat→Int):Prop:=∀ i,i<m.length→(ya n fun q=>ent m i q*v q)%p=0
theorem Orth.sp {p:Int} {n:Nat} {m:List (List Int)} {v:Nat→Int} (h:Orth p n m v) {u:Nat→Int} (hu:Sp p n m u):(ya n fun q=>u q*v q)%p=0:=by
 obtain⟨c,hc⟩:=hu
 have e1:(ya n fun q=>u q*v q)%p=(ya n fun q=>ya m.length fun i=>c i*(ent m i q*v q))%p:=by
  refine yW p fun q hq=>?_
  rw[yw (f:=fun i=>c i*(ent m i q*v q)) (g:=fun i=>v q*(c i*ent m i q)) (fun i _=>by rw[Int.mul_comm (v q),Int.mul_assoc]),y7,Int.mul_comm (v q)]
  exact z7 (hc q hq) rfl
 rw[e1,vt]
 refine (yW p (g:=fun _=>0) fun i hi=>?_).trans (by rw[zl fun _ _=>rfl];rfl)
 rw[y7,Int.mul_emod,h i hi];simp
theorem Orth.of_in {p:Int} {n:Nat} {m m':List (List Int)} {v:Nat→Int} (h:Orth p n m v) (hi:InSp p n m' m):Orth p n m' v:=fun i hl=>h.sp (hi i hl)
theorem Orth.congr {p:Int} {n:Nat} {m:List (List Int)} {v u:Nat→Int} (h:Orth p n m v) (e:∀ q,q<n→v q%p=u q%p):Orth p n m u:=fun i hi=>by
 rw[← h i hi];exact (yW p fun q hq=>z7 rfl (e q hq)).symm
theorem jM {p:Int} {B:List (List Int)} {n f k:Nat} (hk:k<n):(za p B n f).getD k 0=if k=f then 1 else match xn B k with | some i=>(-(ent B i f))%p | none=>0:=by
 unfold za y4
 rw[yC hk];simp<;>rfl
theorem ybw {p:Int} {B:List (List Int)} {n f i:Nat} (hR:Red n B) (hi:i<B.length) (hf:isLd B f=false):(za p B n f).getD (ld B i) 0=(-(ent B i f))%p:=by
 rw[jM (hR.lt i hi),if_neg (fun e=>by rw[z9.2 ⟨i,hi,e⟩]at hf;cases hf),j7 hR hi]
theorem jN {p:Int} {B:List (List Int)} {n f:Nat} (hf:f<n):(za p B n f).getD f 0=1:=by rw[jM hf,if_pos rfl]
theorem ybx {p:Int} {B:List (List Int)} {n f k:Nat} (hk:k<n) (hkf:k≠f) (hl:isLd B k=false):(za p B n f).getD k 0=0:=by rw[jM hk,if_neg hkf,yb4 hl]
theorem yby {p:Int} {B:List (List Int)} {n f:Nat} (hR:Red n B) (hf:f<n) (hl:isLd B f=false):Orth p n B fun q=>(za p B n f).getD q 0:=fun i hi=>by
 have hne:ld B i≠f:=fun e=>by rw[z9.2 ⟨i,hi,e⟩]at hl;cases hl
 rw[yhL (f:=fun q=>ent B i q*(za p B n f).getD q 0) (ld B i) f (hR.lt i hi) hf hne (fun q hq h1 h2=>by
  cases hq':isLd B q with
  | false=>simp only[ybx hq h2 hq',Int.mul_zero]
  | true=>
   obtain⟨j,hj,rfl⟩:=z9.1 hq'
   simp only[hR.zero j i hj hi (fun e=>h1 (by rw[e])),Int.zero_mul]),ybw hR hi hl,jN hf,hR.one i hi,Int.one_mul,Int.mul_one]
 refine (zo (yM _ _) rfl).trans ?_
 rw[Int.add_comm,← Int.sub_eq_add_neg,Int.sub_self];rfl
theorem ybz {p:Int} {B:List (List Int)} {n k:Nat} {x:List Int}:x∈y5 p B n k ↔ ∃ f,f<k∧isLd B f=false∧x=za p B n f:=by
 unfold y5
 rw[List.mem_map]
 constructor
 ·rintro ⟨f,hf,rfl⟩
  rw[List.mem_filter]at hf
  exact⟨f,by simpa using hf.1,by simpa using hf.2,rfl⟩
 ·rintro ⟨f,h1,h2,rfl⟩
  exact⟨f,List.mem_filter.2 ⟨by simpa using h1,by simp[h2]⟩,rfl⟩
theorem ybB {p:Int} {B:List (List Int)} {n:Nat} (hR:Red n B) {v:Nat→Int}:Sp p n (y5 p B n n) v↔Orth p n B v:=by
 constructor
 ·rintro ⟨c,hc⟩ i hi
  have h2:Orth p n (y5 p B n n) fun q=>ent B i q:=fun r hr=>by
   have hx:=List.getElem_mem hr
   obtain⟨f,hf,hl,e⟩:=ybz.1 hx
   have:=yby (p:=p) hR hf hl i hi
   rw[yw (g:=fun q=>ent B i q*(za p B n f).getD q 0) fun q _=>by unfold ent;rw[yc [] hr,e,Int.mul_comm]]
   exact this
  have:=h2.sp ⟨c,hc⟩
  rw[yw (g:=fun q=>v q*ent B i q) fun q _=>Int.mul_comm _ _]
  exact this
 ·intro h
  have hmem:Sp p n (y5 p B n n) fun q=>ya n fun f=>if isLd B f then 0 else v f*(za p B n f).getD q 0:=Sp.sum n fun f hf=>by
   cases hl:isLd B f with
   | true=>simp only[if_true];exact Sp.zero _ _ _
   | false=>simp only[Bool.false_eq_true,if_false];exact (Sp.mem (ybz.2 ⟨f,hf,hl,rfl⟩)).mul (v f)
  refine hmem.congr fun q hq=>?_
  cases hl:isLd B q with
  | false=>
   rw[yF (f:=fun f=>if isLd B f then 0 else v f*(za p B n f).getD q 0) q hq (fun f hf hfq=>by
    cases hlf:isLd B f with
    | true=>simp
    | false=>simp only[Bool.false_eq_true,if_false,ybx hq (Ne.symm hfq) hl,Int.mul_zero])]
   simp only[hl,Bool.false_eq_true,if_false,jN hq,Int.mul_one]
  | true=>
   obtain⟨i,hi,rfl⟩:=z9.1 hl
   have ho:=h i hi
   have e1:(ya n fun f=>ent B i f*v f)%p=(ya n fun f=>(if f=ld B i then v f else 0)+(-1)*(if isLd B f then 0 else v f*(za p B n f).getD (ld B i) 0))%p:=by
    refine yW p fun f hf=>?_
    cases hlf:isLd B f with
    | true=>
     obtain⟨j,hj,rfl⟩:=z9.1 hlf
     simp only[if_true,Int.mul_zero,Int.add_zero]
     by_cases hji:j=i
     ·subst hji;rw[if_pos rfl,hR.one j hj,Int.one_mul]
     ·rw[if_neg (fun e=>hji (hR.inj hj hi e)),hR.zero j i hj hi (Ne.symm hji),Int.zero_mul]
    | false=>
     have hne:f≠ld B i:=fun e=>by rw[e,hl]at hlf;cases hlf
     simp only[Bool.false_eq_true,if_false,if_neg hne,Int.zero_add,ybw hR hi hlf]
     have:-1*(v f*(-(ent B i f)%p))%p = -1*(v f*(-(ent B i f)))%p:=z7 rfl (z7 rfl (yM _ _))
     rw[this];congr 1
     rw[Int.mul_neg,Int.neg_mul,Int.one_mul,Int.neg_neg,Int.mul_comm]
   rw[e1,z5,y7,yF (f:=fun f=>if f=ld B i then v f else 0) (ld B i) hq (fun f _ hf=>if_neg hf),if_pos rfl]at ho
   obtain⟨S,hS⟩:∃ S,S=ya n fun f=>if isLd B f then 0 else v f*(za p B n f).getD (ld B i) 0:=⟨_,rfl⟩
   rw[← hS]at ho ⊢
   have:=zo (ho.trans (Int.zero_emod p).symm) (show S%p=S%p from rfl)
   rw[Int.zero_add]at this
   rw[← this];congr 1;omega
theorem vq {p:Int} (hP:isP p=true) {n:Nat} {m:List (List Int)} (hT:Tab p n m) {v:Nat→Int}:Sp p n (yI p m n) v↔Orth p n m v:=by
 have hp:2≤p:=by have:=yk hP;omega
 obtain⟨a1,a2⟩:=vN hP m hT
 obtain⟨b1,b2⟩:=vN hP _ (uE (p:=p) hp (yf p m) n n)
 constructor
 ·exact fun h=>((ybB (xz hP m hT)).1 (b1.sp h)).of_in a2
 ·exact fun h=>b2.sp ((ybB (xz hP m hT)).2 (h.of_in a1))
theorem yc9 {m:List (List Int)} {n q:Nat} {p:Int} (hT:Tab p n m) (h0:0<m.length) (hq:q<n):(zt m).getD q []=tab m.length fun i=>ent m i q:=by
 unfold zt
 rw[qP hT h0,yC hq]
end Go.Proofs.YtaiegpggccdgoaaGreat
