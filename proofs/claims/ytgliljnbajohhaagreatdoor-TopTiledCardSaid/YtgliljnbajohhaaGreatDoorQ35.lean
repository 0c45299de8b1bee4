import Derived.Test.YtgliljnbajohhaaGreatDoorQ27
import Derived.Test.YtgliljnbajohhaaGreatDoorProg
import Derived.Test.YtgliljnbajohhaaGreatDoorQ34
import Derived.NoCompiler
set_option linter.unusedVariables false
set_option linter.unusedSimpArgs false
namespace Go.Ex
open Go
set_option maxRecDepth 100000
noncomputable def ty2:TI:=⟨1,8,[.i .i64 0],(.int .i64),[]⟩
noncomputable def ty3:TI:=⟨1,8,[.i .i64 0],(.int .i64),[]⟩
noncomputable def ty4:TI:=⟨1,1,[.b false],.bool,[]⟩
noncomputable def ty5:TI:=⟨1,1,[.i .u8 0],(.int .u8),[]⟩
noncomputable def ty9:TI:=⟨1,16,[.s []],.str,[]⟩
noncomputable def ty21:TI:=⟨1,4,[.i .i32 0],(.int .i32),[]⟩
noncomputable def ty22:TI:=⟨1,24,[.s0],(.slice 3),[]⟩
noncomputable def ty24:TI:=⟨1,24,[.s0],(.slice 39),[]⟩
noncomputable def ty25:TI:=⟨1,24,[.s0],(.slice 44),[]⟩
noncomputable def ty26:TI:=⟨1,24,[.s0],(.slice 125),[]⟩
noncomputable def ty27:TI:=⟨1,24,[.s0],(.slice 130),[]⟩
noncomputable def ty28:TI:=⟨1,24,[.s0],(.slice 135),[]⟩
noncomputable def ty29:TI:=⟨1,24,[.s0],(.slice 227),[]⟩
noncomputable def ty31:TI:=⟨6,144,[.s0,.s0,.s0,.s0,.s0,.s0],(.struct [(0,24,1),(1,25,1),(2,26,1),(3,27,1),(4,28,1),(5,29,1)]),[]⟩
noncomputable def ty32:TI:=⟨1,24,[.s0],(.slice 36),[]⟩
noncomputable def ty34:TI:=⟨1,24,[.s0],(.slice 71),[]⟩
noncomputable def ty36:TI:=⟨1,24,[.s0],(.struct [(0,34,1)]),[]⟩
noncomputable def ty39:TI:=⟨5,56,[.i .i64 0,.i .i64 0,.i .i64 0,.i .i64 0,.s0],(.struct [(0,3,1),(1,3,1),(2,3,1),(3,3,1),(4,36,1)]),[]⟩
noncomputable def ty41:TI:=⟨2,16,[.i .i64 0,.i .i64 0],(.struct [(0,3,1),(1,3,1)]),[]⟩
noncomputable def ty42:TI:=⟨1,24,[.s0],(.slice 41),[]⟩
noncomputable def ty44:TI:=⟨2,32,[.i .i64 0,.s0],(.struct [(0,3,1),(1,42,1)]),[]⟩
noncomputable def ty45:TI:=⟨1,8,[.p0],(.ptr 86),[("One",22),("Tax",8),("apportion/calc.none",19),("apportion/calc.who",21)]⟩
noncomputable def ty46:TI:=⟨1,8,[.i .i64 0],(.int .i64),[]⟩
noncomputable def ty49:TI:=⟨1,24,[.s0],(.slice 59),[]⟩
noncomputable def ty53:TI:=⟨2,16,[.i .i64 0,.i .i64 0],(.struct [(0,3,1),(1,3,1)]),[]⟩
noncomputable def ty54:TI:=⟨1,24,[.s0],(.slice 96),[]⟩
noncomputable def ty56:TI:=⟨5,56,[.i .i64 0,.i .i64 0,.i .i64 0,.i .i64 0,.s0],(.struct [(0,3,1),(1,3,1),(2,53,2),(4,54,1)]),[]⟩
noncomputable def ty59:TI:=⟨6,48,[.i .i64 0,.i .i64 0,.i .i64 0,.i .i64 0,.i .i64 0,.i .i64 0],(.struct [(0,3,1),(1,3,1),(2,3,1),(3,3,1),(4,3,1),(5,3,1)]),[]⟩
noncomputable def ty61:TI:=⟨1,8,[.p0],(.ptr 116),[("Commit",13),("Load",24),("Quote",89),("Report",14),("apportion/desk.configured",75),("apportion/desk.filled",76),("apportion/desk.keep",90),("apportion/desk.none",86),("apportion/desk.sell",27)]⟩
noncomputable def ty63:TI:=⟨1,8,[.p0],(.ptr 108),[("Append",81),("Read",160),("Rename",85),("Sync",83),("apportion/disk.down",165),("apportion/disk.none",257),("apportion/disk.open",171),("apportion/disk.step",168)]⟩
noncomputable def ty68:TI:=⟨8,64,[.i .i64 0,.i .i64 0,.i .i64 0,.i .i64 0,.i .i64 0,.i .i64 0,.i .i64 0,.i .i64 0],(.struct [(0,3,1),(1,3,1),(2,3,1),(3,3,1),(4,3,1),(5,3,1),(6,3,1),(7,3,1)]),[]⟩
noncomputable def ty71:TI:=⟨1,24,[.s0],(.slice 53),[]⟩
noncomputable def ty74:TI:=⟨1,24,[.s0],(.slice 5),[]⟩
noncomputable def ty77:TI:=⟨1,8,[.p0],(.ptr 156),[("At",62),("Near",142),("apportion/index.slabs",143)]⟩
noncomputable def ty78:TI:=⟨1,8,[.p0],(.ptr 170),[]⟩
noncomputable def ty79:TI:=⟨0,0,[],(.array 0 78),[]⟩
noncomputable def ty80:TI:=⟨0,0,[],(.struct []),[]⟩
noncomputable def ty81:TI:=⟨0,0,[],(.struct []),[]⟩
noncomputable def ty84:TI:=⟨1,8,[.p0],(.struct [(0,79,0),(0,81,0),(0,82,1)]),[]⟩
noncomputable def ty86:TI:=⟨9,168,[.b false,.s0,.s0,.s0,.s0,.s0,.s0,.p0,.p0],(.struct [(0,4,1),(1,31,6),(7,77,1),(8,84,1)]),[]⟩
noncomputable def ty88:TI:=⟨2,16,[.i .i64 0,.i .i64 0],(.struct [(0,46,1),(1,3,1)]),[]⟩
noncomputable def ty96:TI:=⟨2,16,[.i .i64 0,.i .i64 0],(.struct [(0,3,1),(1,3,1)]),[]⟩
noncomputable def ty103:TI:=⟨1,8,[.m0],(.map 9 305),[]⟩
noncomputable def ty104:TI:=⟨0,0,[],(.struct []),[]⟩
noncomputable def ty106:TI:=⟨1,8,[.i .i64 0],(.struct [(0,81,0),(0,104,0),(0,2,1)]),[]⟩
noncomputable def ty108:TI:=⟨4,32,[.m0,.i .i64 0,.i .i64 0,.b false],(.struct [(0,103,1),(1,106,1),(2,3,1),(3,4,1)]),[]⟩
noncomputable def ty110:TI:=⟨1,8,[.f0],.func,[]⟩
noncomputable def ty113:TI:=⟨1,8,[.p0],(.ptr 414),[("Add",183),("apportion/ledger.none",265)]⟩
noncomputable def ty114:TI:=⟨1,8,[.p0],(.ptr 298),[("Add",164),("Entry",87),("Lines",178),("May",181),("Moves",95),("apportion/book.none",176)]⟩
noncomputable def ty116:TI:=⟨12,192,[.p0,.s0,.s0,.s0,.s0,.s0,.s0,.p0,.p0,.p0,.i .i64 0,.b false],(.struct [(0,63,1),(1,31,6),(7,45,1),(8,113,1),(9,114,1),(10,106,1),(11,4,1)]),[]⟩
noncomputable def ty117:TI:=⟨1,8,[.f0],.func,[]⟩
noncomputable def ty119:TI:=⟨1,8,[.f0],.func,[]⟩
noncomputable def ty120:TI:=⟨2,16,[.i .i64 0,.f0],(.struct [(0,3,1),(1,119,1)]),[]⟩
noncomputable def ty125:TI:=⟨6,48,[.i .i64 0,.i .i64 0,.i .i64 0,.i .i64 0,.i .i64 0,.i .i64 0],(.struct [(0,3,1),(1,3,1),(2,3,1),(3,3,1),(4,3,1),(5,3,1)]),[]⟩
noncomputable def ty130:TI:=⟨5,40,[.i .i64 0,.i .i64 0,.i .i64 0,.i .i64 0,.i .i64 0],(.struct [(0,3,1),(1,3,1),(2,3,1),(3,3,1),(4,3,1)]),[]⟩
noncomputable def ty135:TI:=⟨6,48,[.i .i64 0,.i .i64 0,.i .i64 0,.i .i64 0,.i .i64 0,.i .i64 0],(.struct [(0,3,1),(1,3,1),(2,3,1),(3,3,1),(4,3,1),(5,3,1)]),[]⟩
noncomputable def ty140:TI:=⟨1,24,[.s0],(.slice 120),[]⟩
noncomputable def ty141:TI:=⟨1,8,[.p0],(.ptr 143),[("apportion/config.count",514),("apportion/config.fine",515),("apportion/config.number",516)]⟩
noncomputable def ty143:TI:=⟨1,24,[.s0],(.struct [(0,74,1)]),[]⟩
noncomputable def ty146:TI:=⟨1,8,[.p0],(.ptr 150),[("apportion/config.count",519),("apportion/config.fine",520),("apportion/config.number",521)]⟩
noncomputable def ty147:TI:=⟨1,8,[.p0],(.ptr 264),[("Count",250),("End",54),("Fault",130),("Int",249),("apportion/octet.none",208),("apportion/octet.number",324)]⟩
noncomputable def ty150:TI:=⟨1,8,[.p0],(.struct [(0,147,1)]),[]⟩
noncomputable def ty152:TI:=⟨1,24,[.s0],(.slice 391),[]⟩
noncomputable def ty153:TI:=⟨1,24,[.s0],(.slice 281),[]⟩
noncomputable def ty154:TI:=⟨1,8,[.p0],(.ptr 276),[("At",223),("apportion/boxtree.around",220),("apportion/boxtree.asks",290),("apportion/boxtree.part",140),("apportion/boxtree.walk",356)]⟩
noncomputable def ty156:TI:=⟨5,88,[.b false,.s0,.p0,.s0,.s0],(.struct [(0,4,1),(1,32,1),(2,154,1),(3,152,1),(4,153,1)]),[]⟩
noncomputable def ty157:TI:=⟨1,24,[.s0],(.slice 160),[]⟩
noncomputable def ty160:TI:=⟨4,32,[.i .i64 0,.i .i64 0,.i .i64 0,.i .i64 0],(.struct [(0,53,2),(2,53,2)]),[]⟩
noncomputable def ty170:TI:=⟨3,40,[.i .i64 0,.i .i64 0,.s0],(.struct [(0,53,2),(2,22,1)]),[]⟩
noncomputable def ty179:TI:=⟨9,72,[.p0,.i .i64 0,.i .i64 0,.i .i64 0,.i .i64 0,.i .i64 0,.i .i64 0,.i .i64 0,.i .i64 0],(.struct [(0,45,1),(1,3,1),(2,3,1),(3,3,1),(4,3,1),(5,3,1),(6,3,1),(7,3,1),(8,3,1)]),[("apportion/calc.byCert",70),("apportion/calc.byHoliday",69),("apportion/calc.byRule",68),("apportion/calc.line",71)]⟩
noncomputable def ty184:TI:=⟨1,8,[.f0],.func,[]⟩
noncomputable def ty185:TI:=⟨1,24,[.s0],(.slice 184),[]⟩
noncomputable def ty195:TI:=⟨6,80,[.i .i64 0,.i .i64 0,.i .i64 0,.i .i64 0,.s0,.s0],(.struct [(0,3,1),(1,3,1),(2,3,1),(3,3,1),(4,22,1),(5,49,1)]),[]⟩
noncomputable def ty202:TI:=⟨1,8,[.i .u64 0],(.int .u64),[]⟩
noncomputable def ty204:TI:=⟨2,16,[.i .u64 0,.i .u64 0],(.struct [(0,202,1),(1,202,1)]),[("apportion/remit.int",98)]⟩
noncomputable def ty205:TI:=⟨6,48,[.i .u64 0,.i .u64 0,.i .u64 0,.i .u64 0,.i .u64 0,.i .u64 0],(.array 3 204),[]⟩
noncomputable def ty206:TI:=⟨1,24,[.s0],(.slice 209),[]⟩
noncomputable def ty209:TI:=⟨6,48,[.i .i64 0,.i .i64 0,.b false,.i .i64 0,.i .i64 0,.i .i64 0],(.struct [(0,3,1),(1,3,1),(2,4,1),(3,3,1),(4,3,1),(5,3,1)]),[]⟩
noncomputable def ty210:TI:=⟨3,24,[.i .i64 0,.i .i64 0,.i .i64 0],(.array 3 3),[]⟩
noncomputable def ty212:TI:=⟨1,8,[.p0],(.ptr 3),[]⟩
noncomputable def ty213:TI:=⟨3,24,[.p0,.p0,.p0],(.array 3 212),[]⟩
noncomputable def ty224:TI:=⟨3,24,[.i .i64 0,.i .i64 0,.i .i64 0],(.struct [(0,3,1),(1,3,1),(2,3,1)]),[]⟩
noncomputable def ty227:TI:=⟨13,152,[.s [],.s [],.s [],.s [],.s [],.s [],.i .i64 0,.i .i64 0,.i .i64 0,.i .i64 0,.i .i64 0,.i .i64 0,.i .i64 0],(.struct [(0,9,1),(1,9,1),(2,9,1),(3,9,1),(4,9,1),(5,9,1),(6,3,1),(7,3,1),(8,3,1),(9,53,2),(11,53,2)]),[]⟩
noncomputable def ty230:TI:=⟨1,8,[.m0],(.map 235 233),[]⟩
noncomputable def ty232:TI:=⟨3,24,[.m0,.i .i64 0,.b false],(.struct [(0,230,1),(1,3,1),(2,4,1)]),[]⟩
noncomputable def ty233:TI:=⟨2,48,[.s0,.s0],(.array 2 29),[]⟩
noncomputable def ty235:TI:=⟨6,96,[.s [],.s [],.s [],.s [],.s [],.s []],(.array 6 9),[]⟩
noncomputable def ty264:TI:=⟨5,56,[.s0,.i .i64 0,.i .i64 0,.i .i64 0,.b false],(.struct [(0,74,1),(1,3,1),(2,88,2),(4,4,1)]),[]⟩
noncomputable def ty274:TI:=⟨1,24,[.s0],(.slice 379),[]⟩
noncomputable def ty276:TI:=⟨4,80,[.b false,.s0,.s0,.s0],(.struct [(0,4,1),(1,157,1),(2,22,1),(3,274,1)]),[]⟩
noncomputable def ty281:TI:=⟨1,8,[.p0],(.ptr 472),[("Crossings",227),("In",144),("Len",298),("apportion/slab.slab",299)]⟩
noncomputable def ty296:TI:=⟨1,8,[.m0],(.map 3 318),[]⟩
noncomputable def ty298:TI:=⟨2,32,[.s0,.m0],(.struct [(0,22,1),(1,296,1)]),[]⟩
noncomputable def ty300:TI:=⟨1,24,[.s0],(.slice 74),[]⟩
noncomputable def ty305:TI:=⟨1,8,[.p0],(.ptr 309),[("apportion/disk.after",258),("apportion/disk.bytes",167),("apportion/disk.loose",174),("apportion/disk.settle",173)]⟩
noncomputable def ty307:TI:=⟨1,24,[.s0],(.slice 431),[]⟩
noncomputable def ty309:TI:=⟨2,48,[.s0,.s0],(.struct [(0,74,1),(1,307,1)]),[]⟩
noncomputable def ty312:TI:=⟨1,24,[.s0],(.slice 5),[("apportion/disk.units",531)]⟩
noncomputable def ty318:TI:=⟨1,8,[.p0],(.ptr 320),[]⟩
noncomputable def ty320:TI:=⟨9,136,[.i .i64 0,.i .i64 0,.i .i64 0,.i .i64 0,.s0,.s0,.s0,.s0,.b false],(.struct [(0,195,6),(6,49,1),(7,22,1),(8,4,1)]),[]⟩
noncomputable def ty330:TI:=⟨3,24,[.i .i64 0,.i .i64 0,.i .i64 0],(.struct [(0,3,1),(1,3,1),(2,3,1)]),[]⟩
noncomputable def ty336:TI:=⟨1,8,[.i .u64 0],(.int .u64),[]⟩
noncomputable def ty374:TI:=⟨1,8,[.f0],.func,[]⟩
noncomputable def ty375:TI:=⟨1,8,[.i .i64 0],(.int .i64),[("apportion/point.of",218)]⟩
noncomputable def ty376:TI:=⟨2,16,[.f0,.f0],(.array 2 374),[]⟩
noncomputable def ty379:TI:=⟨6,48,[.i .i64 0,.i .i64 0,.i .i64 0,.i .i64 0,.i .i64 0,.i .i64 0],(.struct [(0,3,1),(1,3,1),(2,160,4)]),[]⟩
noncomputable def ty382:TI:=⟨0,0,[],(.struct []),[]⟩
noncomputable def ty383:TI:=⟨1,4,[.i .u32 0],(.int .u32),[]⟩
noncomputable def ty385:TI:=⟨1,4,[.i .u32 0],(.struct [(0,81,0),(0,383,1)]),[]⟩
noncomputable def ty387:TI:=⟨2,8,[.i .i32 0,.i .u32 0],(.struct [(0,21,1),(1,383,1)]),[]⟩
noncomputable def ty389:TI:=⟨2,8,[.i .i32 0,.i .u32 0],(.struct [(0,382,0),(0,387,2)]),[]⟩
noncomputable def ty391:TI:=⟨3,12,[.i .u32 0,.i .i32 0,.i .u32 0],(.struct [(0,382,0),(0,385,1),(1,389,2)]),[]⟩
noncomputable def ty408:TI:=⟨4,32,[.i .i64 0,.i .i64 0,.i .i64 0,.i .i64 0],(.struct [(0,3,1),(1,3,1),(2,3,1),(3,3,1)]),[]⟩
noncomputable def ty414:TI:=⟨5,48,[.p0,.s [],.i .i64 0,.i .i64 0,.b false],(.struct [(0,63,1),(1,9,1),(2,3,1),(3,3,1),(4,4,1)]),[]⟩
noncomputable def ty420:TI:=⟨1,16,[.if0],.iface,[]⟩
noncomputable def ty423:TI:=⟨6,80,[.i .i64 0,.i .i64 0,.i .i64 0,.i .i64 0,.s0,.s0],(.struct [(0,195,6)]),[("apportion/book.fine",532)]⟩
noncomputable def ty424:TI:=⟨6,80,[.i .i64 0,.i .i64 0,.i .i64 0,.i .i64 0,.s0,.s0],(.struct [(0,195,6)]),[]⟩
noncomputable def ty427:TI:=⟨6,80,[.i .i64 0,.i .i64 0,.i .i64 0,.i .i64 0,.s0,.s0],(.struct [(0,195,6)]),[]⟩
noncomputable def ty431:TI:=⟨1,16,[.if0],.iface,[]⟩
noncomputable def ty436:TI:=⟨1,8,[.m0],(.map 3 3),[]⟩
noncomputable def ty446:TI:=⟨1,24,[.s0],(.slice 212),[]⟩
noncomputable def ty470:TI:=⟨1,24,[.s0],(.slice 476),[]⟩
noncomputable def ty472:TI:=⟨4,80,[.b false,.s0,.s0,.s0],(.struct [(0,4,1),(1,22,1),(2,22,1),(3,470,1)]),[]⟩
noncomputable def ty476:TI:=⟨4,32,[.i .i64 0,.i .i64 0,.i .i64 0,.i .i64 0],(.struct [(0,53,2),(2,53,2)]),[]⟩
noncomputable def ty480:TI:=⟨1,8,[.i .i64 0],(.int .i64),[]⟩
noncomputable def ty496:TI:=⟨1,8,[.i .i64 0],(.int .i64),[]⟩
noncomputable def ty499:TI:=⟨1,8,[.m0],(.map 607 80),[("apportion/order.twice",382)]⟩
noncomputable def ty512:TI:=⟨13,104,[.i .i64 0,.i .i64 0,.i .i64 0,.i .i64 0,.i .i64 0,.i .i64 0,.i .i64 0,.i .i64 0,.i .i64 0,.i .i64 0,.i .i64 0,.i .i64 0,.i .i64 0],(.array 13 3),[]⟩
noncomputable def ty535:TI:=⟨1,16,[.if0],.iface,[]⟩
noncomputable def ty573:TI:=⟨256,1024,(List.replicate 256 (.i .u32 0)),(.array 256 383),[]⟩
noncomputable def ty607:TI:=⟨2,16,[.i .i64 0,.i .i64 0],(.array 2 3),[]⟩
noncomputable def ty617:TI:=⟨1,24,[.s0],(.slice 22),[]⟩
noncomputable def tiT:T TI:=(.n (.n (.n (.n (.n (.n (.n (.n .e none (.n .e (some (ty383)) .e)) (some (ty63)) .e) (some (ty31)) (.n .e none (.n (.n (.n .e (some (ty607)) .e) none .e) none .e))) none (.n (.n (.n .e (some (ty143)) .e) (some (ty79)) .e) none (.n (.n .e none (.n .e (some (ty431)) .e)) none .e))) none (.n (.n (.n (.n .e (some (ty135)) (.n .e (some (ty391)) .e)) (some (ty71)) .e) (some (ty39)) (.n (.n .e none (.n .e (some (ty423)) .e)) (some (ty103)) .e)) none (.n (.n (.n (.n (.n .e (some (ty535)) .e) none .e) none .e) none .e) none (.n .e (some (ty119)) (.n (.n .e (some (ty375)) .e) none .e))))) (some (ty3)) (.n (.n (.n (.n (.n .e none (.n .e (some (ty387)) .e)) none (.n .e (some (ty195)) .e)) none (.n .e none (.n .e (some (ty227)) .e))) none (.n (.n (.n .e (some (ty147)) .e) none .e) none (.n (.n (.n .e (some (ty307)) .e) (some (ty179)) .e) none (.n .e none (.n .e (some (ty499)) .e))))) none (.n (.n .e none (.n (.n .e none (.n .e (some (ty427)) .e)) none (.n .e (some (ty235)) .e))) (some (ty27)) (.n .e (some (ty59)) (.n .e none (.n (.n .e (some (ty379)) .e) none .e)))))) none (.n (.n (.n (.n (.n (.n .e none (.n .e (some (ty385)) .e)) none .e) none .e) none (.n (.n .e (some (ty81)) (.n .e (some (ty209)) .e)) (some (ty49)) (.n (.n (.n .e (some (ty305)) .e) none .e) (some (ty113)) .e))) (some (ty9)) (.n (.n .e (some (ty41)) (.n .e none (.n (.n (.n .e (some (ty617)) .e) none .e) (some (ty233)) .e))) (some (ty25)) (.n (.n (.n (.n .e (some (ty281)) .e) (some (ty153)) .e) none .e) none (.n (.n .e (some (ty185)) .e) none .e)))) (some (ty5)) (.n (.n (.n (.n (.n .e none (.n .e (some (ty389)) .e)) none .e) none .e) (some (ty21)) (.n (.n .e none (.n .e (some (ty213)) .e)) (some (ty53)) (.n (.n (.n .e (some (ty309)) .e) none .e) (some (ty117)) .e))) none (.n (.n (.n (.n .e (some (ty141)) .e) (some (ty77)) (.n .e (some (ty205)) .e)) (some (ty45)) .e) (some (ty29)) (.n (.n (.n .e (some (ty157)) .e) none .e) (some (ty61)) (.n (.n (.n (.n .e (some (ty573)) .e) none .e) none .e) (some (ty125)) .e)))))) none (.n (.n (.n (.n (.n (.n (.n (.n (.n .e (some (ty512)) .e) none .e) none .e) none (.n (.n .e (some (ty320)) .e) none .e)) (some (ty32)) (.n (.n .e (some (ty160)) .e) (some (ty96)) (.n .e (some (ty224)) (.n .e (some (ty480)) .e)))) none (.n (.n .e (some (ty80)) (.n (.n .e (some (ty336)) .e) none .e)) none (.n .e none (.n .e none (.n .e (some (ty496)) .e))))) none (.n (.n (.n (.n (.n .e (some (ty264)) .e) none .e) none .e) none (.n (.n (.n .e (some (ty296)) .e) none (.n .e (some (ty424)) .e)) (some (ty104)) (.n .e (some (ty232)) .e))) (some (ty24)) (.n (.n (.n .e (some (ty152)) (.n .e (some (ty408)) .e)) (some (ty88)) (.n .e none (.n .e (some (ty472)) .e))) (some (ty56)) (.n (.n (.n .e (some (ty312)) .e) (some (ty184)) .e) (some (ty120)) (.n (.n .e (some (ty376)) .e) none .e))))) (some (ty4)) (.n (.n (.n (.n .e (some (ty68)) .e) (some (ty36)) (.n (.n .e none (.n .e (some (ty420)) .e)) none .e)) none (.n (.n (.n (.n .e (some (ty276)) .e) none .e) (some (ty84)) (.n .e (some (ty212)) .e)) none (.n (.n .e none (.n .e (some (ty436)) .e)) (some (ty116)) .e))) none (.n (.n (.n (.n .e (some (ty140)) .e) none (.n .e (some (ty204)) .e)) (some (ty44)) (.n (.n (.n .e (some (ty300)) .e) none .e) (some (ty108)) .e)) (some (ty28)) (.n (.n (.n .e (some (ty156)) .e) none (.n .e none (.n .e (some (ty476)) .e))) none .e)))) (some (ty2)) (.n (.n (.n (.n (.n (.n .e (some (ty130)) .e) none .e) (some (ty34)) .e) none (.n (.n (.n (.n .e (some (ty274)) .e) (some (ty146)) .e) none (.n .e (some (ty210)) .e)) none (.n .e (some (ty114)) .e))) none (.n (.n (.n .e (some (ty74)) (.n (.n .e (some (ty330)) .e) (some (ty202)) .e)) (some (ty42)) (.n (.n (.n .e (some (ty298)) .e) (some (ty170)) .e) (some (ty106)) .e)) (some (ty26)) (.n (.n (.n .e (some (ty154)) .e) none .e) none .e))) none (.n (.n (.n .e none (.n .e none (.n .e (some (ty230)) .e))) (some (ty22)) (.n (.n (.n .e (some (ty150)) .e) (some (ty86)) (.n .e none (.n .e (some (ty470)) .e))) (some (ty54)) (.n .e none (.n (.n .e (some (ty374)) .e) none .e)))) none (.n (.n (.n .e (some (ty78)) (.n .e (some (ty206)) .e)) (some (ty46)) (.n .e (some (ty110)) .e)) none (.n (.n (.n .e none (.n .e (some (ty414)) .e)) none .e) none (.n (.n (.n .e (some (ty318)) .e) none (.n .e (some (ty446)) .e)) none (.n (.n .e (some (ty382)) .e) none .e))))))))
noncomputable def ftT:T Func:=(.n (.n (.n (.n (.n (.n (.n (.n .e none (.n .e (some (Go.Proofs.Tryz.f383)) .e)) (some (Go.Proofs.Tryz.f63)) .e) (some (Go.Proofs.Tryz.f31)) (.n (.n .e (some (Go.Proofs.Tryz.f159)) .e) (some (Go.Proofs.Tryz.f95)) (.n .e (some (Go.Proofs.Tryz.f223)) .e))) (some (Go.Proofs.Tryz.f15)) (.n (.n (.n .e (some (Go.Proofs.Tryz.f143)) .e) (some (Go.Proofs.Tryz.f79)) (.n .e (some (Go.Proofs.Tryz.f207)) .e)) (some (Go.Proofs.Tryz.f47)) (.n (.n .e (some (Go.Proofs.Tryz.f175)) .e) none .e))) (some (Go.Proofs.Tryz.f7)) (.n (.n (.n (.n (.n (.n .e (some (Go.Proofs.Tryz.f519)) .e) (some (Go.Proofs.Tryz.f263)) .e) none .e) (some (Go.Proofs.Tryz.f71)) .e) (some (Go.Proofs.Tryz.f39)) (.n (.n (.n .e (some (Go.Proofs.Tryz.f295)) .e) (some (Go.Proofs.Tryz.f167)) .e) none (.n .e (some (Go.Proofs.Tryz.f231)) .e))) (some (Go.Proofs.Tryz.f23)) (.n (.n (.n (.n .e (some (Go.Proofs.Tryz.f279)) .e) (some (Go.Proofs.Tryz.f151)) (.n .e (some (Go.Proofs.Tryz.f407)) .e)) (some (Go.Proofs.Tryz.f87)) .e) (some (Go.Proofs.Tryz.f55)) (.n (.n (.n .e (some (Go.Proofs.Tryz.f311)) .e) (some (Go.Proofs.Tryz.f183)) .e) (some (Go.Proofs.Tryz.f119)) .e)))) none (.n (.n (.n (.n (.n (.n (.n .e (some (Go.Proofs.Tryz.f515)) .e) (some (Go.Proofs.Tryz.f259)) .e) none .e) (some (Go.Proofs.Tryz.f67)) .e) (some (Go.Proofs.Tryz.f35)) (.n (.n (.n .e (some (Go.Proofs.Tryz.f291)) .e) none .e) (some (Go.Proofs.Tryz.f99)) (.n .e (some (Go.Proofs.Tryz.f227)) .e))) (some (Go.Proofs.Tryz.f19)) (.n (.n (.n (.n (.n .e (some (Go.Proofs.Tryz.f531)) .e) none .e) (some (Go.Proofs.Tryz.f147)) .e) (some (Go.Proofs.Tryz.f83)) .e) (some (Go.Proofs.Tryz.f51)) (.n (.n .e (some (Go.Proofs.Tryz.f179)) .e) none (.n (.n .e (some (Go.Proofs.Tryz.f371)) .e) none .e)))) (some (Go.Proofs.Tryz.f11)) (.n (.n (.n (.n (.n .e (some (Go.Proofs.Tryz.f267)) .e) (some (Go.Proofs.Tryz.f139)) .e) (some (Go.Proofs.Tryz.f75)) (.n (.n .e (some (Go.Proofs.Tryz.f331)) .e) (some (Go.Proofs.Tryz.f203)) .e)) (some (Go.Proofs.Tryz.f43)) (.n (.n (.n .e (some (Go.Proofs.Tryz.f299)) .e) (some (Go.Proofs.Tryz.f171)) .e) none (.n (.n .e (some (Go.Proofs.Tryz.f363)) .e) (some (Go.Proofs.Tryz.f235)) .e))) (some (Go.Proofs.Tryz.f27)) (.n (.n .e (some (Go.Proofs.Tryz.f91)) (.n .e (some (Go.Proofs.Tryz.f219)) .e)) (some (Go.Proofs.Tryz.f59)) (.n (.n .e (some (Go.Proofs.Tryz.f187)) .e) none (.n (.n .e (some (Go.Proofs.Tryz.f379)) .e) none .e)))))) none (.n (.n (.n (.n (.n (.n (.n .e (some (Go.Proofs.Tryz.f257)) .e) none .e) (some (Go.Proofs.Tryz.f65)) (.n (.n .e (some (Go.Proofs.Tryz.f321)) .e) none .e)) (some (Go.Proofs.Tryz.f33)) (.n .e (some (Go.Proofs.Tryz.f97)) (.n .e (some (Go.Proofs.Tryz.f225)) .e))) (some (Go.Proofs.Tryz.f17)) (.n (.n (.n .e (some (Go.Proofs.Tryz.f145)) .e) (some (Go.Proofs.Tryz.f81)) .e) (some (Go.Proofs.Tryz.f49)) (.n (.n .e (some (Go.Proofs.Tryz.f177)) .e) none (.n (.n .e (some (Go.Proofs.Tryz.f369)) .e) (some (Go.Proofs.Tryz.f241)) .e)))) (some (Go.Proofs.Tryz.f9)) (.n (.n (.n (.n (.n (.n .e (some (Go.Proofs.Tryz.f521)) .e) (some (Go.Proofs.Tryz.f265)) .e) (some (Go.Proofs.Tryz.f137)) .e) (some (Go.Proofs.Tryz.f73)) .e) (some (Go.Proofs.Tryz.f41)) (.n (.n (.n .e (some (Go.Proofs.Tryz.f297)) .e) (some (Go.Proofs.Tryz.f169)) .e) none (.n (.n .e (some (Go.Proofs.Tryz.f361)) .e) (some (Go.Proofs.Tryz.f233)) .e))) (some (Go.Proofs.Tryz.f25)) (.n (.n (.n .e (some (Go.Proofs.Tryz.f153)) .e) (some (Go.Proofs.Tryz.f89)) (.n .e (some (Go.Proofs.Tryz.f217)) .e)) (some (Go.Proofs.Tryz.f57)) (.n (.n .e (some (Go.Proofs.Tryz.f185)) .e) (some (Go.Proofs.Tryz.f121)) (.n (.n .e (some (Go.Proofs.Tryz.f377)) .e) (some (Go.Proofs.Tryz.f249)) .e))))) none (.n (.n (.n (.n .e (some (Go.Proofs.Tryz.f69)) .e) (some (Go.Proofs.Tryz.f37)) (.n (.n (.n .e (some (Go.Proofs.Tryz.f293)) .e) (some (Go.Proofs.Tryz.f165)) .e) (some (Go.Proofs.Tryz.f101)) (.n .e (some (Go.Proofs.Tryz.f229)) .e))) (some (Go.Proofs.Tryz.f21)) (.n (.n (.n (.n (.n .e (some (Go.Proofs.Tryz.f533)) .e) (some (Go.Proofs.Tryz.f277)) .e) (some (Go.Proofs.Tryz.f149)) .e) (some (Go.Proofs.Tryz.f85)) .e) (some (Go.Proofs.Tryz.f53)) (.n (.n (.n .e (some (Go.Proofs.Tryz.f309)) .e) (some (Go.Proofs.Tryz.f181)) .e) none (.n (.n .e (some (Go.Proofs.Tryz.f373)) .e) (some (Go.Proofs.Tryz.f245)) .e)))) (some (Go.Proofs.Tryz.f13)) (.n (.n (.n (.n (.n .e (some (Go.Proofs.Tryz.f269)) .e) none .e) (some (Go.Proofs.Tryz.f77)) (.n (.n .e (some (Go.Proofs.Tryz.f333)) .e) (some (Go.Proofs.Tryz.f205)) .e)) (some (Go.Proofs.Tryz.f45)) (.n (.n .e (some (Go.Proofs.Tryz.f173)) .e) (some (Go.Proofs.Tryz.f109)) (.n .e (some (Go.Proofs.Tryz.f237)) .e))) (some (Go.Proofs.Tryz.f29)) (.n (.n (.n .e (some (Go.Proofs.Tryz.f157)) .e) (some (Go.Proofs.Tryz.f93)) .e) none (.n (.n (.n .e (some (Go.Proofs.Tryz.f317)) .e) none .e) none (.n .e (some (Go.Proofs.Tryz.f253)) .e))))))) none (.n (.n (.n (.n (.n (.n (.n .e (some (Go.Proofs.Tryz.f128)) .e) none (.n (.n .e (some (Go.Proofs.Tryz.f320)) .e) none .e)) (some (Go.Proofs.Tryz.f32)) (.n (.n .e (some (Go.Proofs.Tryz.f160)) (.n .e (some (Go.Proofs.Tryz.f416)) .e)) (some (Go.Proofs.Tryz.f96)) (.n .e (some (Go.Proofs.Tryz.f224)) .e))) (some (Go.Proofs.Tryz.f16)) (.n (.n (.n .e (some (Go.Proofs.Tryz.f144)) .e) (some (Go.Proofs.Tryz.f80)) (.n .e (some (Go.Proofs.Tryz.f208)) .e)) none (.n (.n .e (some (Go.Proofs.Tryz.f176)) .e) none (.n .e (some (Go.Proofs.Tryz.f240)) .e)))) (some (Go.Proofs.Tryz.f8)) (.n (.n (.n (.n (.n (.n .e (some (Go.Proofs.Tryz.f520)) .e) (some (Go.Proofs.Tryz.f264)) .e) none .e) (some (Go.Proofs.Tryz.f72)) .e) none (.n (.n (.n .e (some (Go.Proofs.Tryz.f296)) .e) (some (Go.Proofs.Tryz.f168)) .e) (some (Go.Proofs.Tryz.f104)) (.n (.n .e (some (Go.Proofs.Tryz.f360)) .e) (some (Go.Proofs.Tryz.f232)) .e))) (some (Go.Proofs.Tryz.f24)) (.n .e (some (Go.Proofs.Tryz.f56)) (.n (.n (.n .e (some (Go.Proofs.Tryz.f312)) .e) (some (Go.Proofs.Tryz.f184)) .e) (some (Go.Proofs.Tryz.f120)) (.n .e (some (Go.Proofs.Tryz.f248)) .e))))) (some (Go.Proofs.Tryz.f4)) (.n (.n (.n (.n (.n (.n (.n .e (some (Go.Proofs.Tryz.f516)) .e) (some (Go.Proofs.Tryz.f260)) .e) (some (Go.Proofs.Tryz.f132)) .e) (some (Go.Proofs.Tryz.f68)) (.n (.n .e (some (Go.Proofs.Tryz.f324)) .e) (some (Go.Proofs.Tryz.f196)) .e)) (some (Go.Proofs.Tryz.f36)) (.n (.n (.n .e (some (Go.Proofs.Tryz.f292)) .e) (some (Go.Proofs.Tryz.f164)) .e) (some (Go.Proofs.Tryz.f100)) (.n (.n .e (some (Go.Proofs.Tryz.f356)) .e) (some (Go.Proofs.Tryz.f228)) .e))) (some (Go.Proofs.Tryz.f20)) (.n (.n (.n (.n (.n .e (some (Go.Proofs.Tryz.f532)) .e) none .e) (some (Go.Proofs.Tryz.f148)) .e) (some (Go.Proofs.Tryz.f84)) .e) (some (Go.Proofs.Tryz.f52)) (.n (.n .e (some (Go.Proofs.Tryz.f180)) .e) none (.n (.n .e (some (Go.Proofs.Tryz.f372)) .e) none .e)))) (some (Go.Proofs.Tryz.f12)) (.n (.n (.n (.n (.n .e (some (Go.Proofs.Tryz.f268)) .e) (some (Go.Proofs.Tryz.f140)) .e) (some (Go.Proofs.Tryz.f76)) (.n (.n .e (some (Go.Proofs.Tryz.f332)) .e) (some (Go.Proofs.Tryz.f204)) .e)) none (.n (.n (.n .e (some (Go.Proofs.Tryz.f300)) .e) (some (Go.Proofs.Tryz.f172)) .e) none .e)) (some (Go.Proofs.Tryz.f28)) (.n (.n (.n (.n .e (some (Go.Proofs.Tryz.f284)) .e) none .e) (some (Go.Proofs.Tryz.f92)) (.n .e (some (Go.Proofs.Tryz.f220)) .e)) (some (Go.Proofs.Tryz.f60)) (.n .e (some (Go.Proofs.Tryz.f124)) .e))))) none (.n (.n (.n (.n (.n (.n (.n (.n .e (some (Go.Proofs.Tryz.f514)) .e) (some (Go.Proofs.Tryz.f258)) .e) (some (Go.Proofs.Tryz.f130)) (.n .e (some (Go.Proofs.Tryz.f386)) .e)) (some (Go.Proofs.Tryz.f66)) (.n .e (some (Go.Proofs.Tryz.f194)) .e)) (some (Go.Proofs.Tryz.f34)) (.n (.n (.n .e (some (Go.Proofs.Tryz.f290)) .e) (some (Go.Proofs.Tryz.f162)) (.n .e (some (Go.Proofs.Tryz.f418)) .e)) (some (Go.Proofs.Tryz.f98)) (.n .e (some (Go.Proofs.Tryz.f226)) .e))) (some (Go.Proofs.Tryz.f18)) (.n (.n (.n .e (some (Go.Proofs.Tryz.f146)) .e) (some (Go.Proofs.Tryz.f82)) .e) (some (Go.Proofs.Tryz.f50)) (.n (.n .e (some (Go.Proofs.Tryz.f178)) .e) none (.n (.n .e (some (Go.Proofs.Tryz.f370)) .e) (some (Go.Proofs.Tryz.f242)) .e)))) (some (Go.Proofs.Tryz.f10)) (.n (.n (.n (.n (.n .e (some (Go.Proofs.Tryz.f266)) .e) (some (Go.Proofs.Tryz.f138)) .e) (some (Go.Proofs.Tryz.f74)) (.n .e (some (Go.Proofs.Tryz.f202)) .e)) (some (Go.Proofs.Tryz.f42)) (.n (.n (.n .e (some (Go.Proofs.Tryz.f298)) .e) (some (Go.Proofs.Tryz.f170)) .e) none (.n (.n .e (some (Go.Proofs.Tryz.f362)) .e) (some (Go.Proofs.Tryz.f234)) .e))) (some (Go.Proofs.Tryz.f26)) (.n (.n (.n .e (some (Go.Proofs.Tryz.f154)) .e) (some (Go.Proofs.Tryz.f90)) (.n .e (some (Go.Proofs.Tryz.f218)) .e)) (some (Go.Proofs.Tryz.f58)) (.n (.n .e (some (Go.Proofs.Tryz.f186)) .e) (some (Go.Proofs.Tryz.f122)) (.n (.n .e (some (Go.Proofs.Tryz.f378)) .e) (some (Go.Proofs.Tryz.f250)) .e))))) (some (Go.Proofs.Tryz.f6)) (.n (.n (.n (.n (.n .e (some (Go.Proofs.Tryz.f134)) .e) (some (Go.Proofs.Tryz.f70)) (.n (.n .e (some (Go.Proofs.Tryz.f326)) .e) none .e)) (some (Go.Proofs.Tryz.f38)) (.n (.n (.n .e (some (Go.Proofs.Tryz.f294)) .e) (some (Go.Proofs.Tryz.f166)) .e) none (.n .e (some (Go.Proofs.Tryz.f230)) .e))) (some (Go.Proofs.Tryz.f22)) (.n (.n (.n .e (some (Go.Proofs.Tryz.f150)) (.n .e (some (Go.Proofs.Tryz.f406)) .e)) (some (Go.Proofs.Tryz.f86)) (.n .e (some (Go.Proofs.Tryz.f214)) .e)) (some (Go.Proofs.Tryz.f54)) (.n (.n (.n .e (some (Go.Proofs.Tryz.f310)) .e) (some (Go.Proofs.Tryz.f182)) .e) (some (Go.Proofs.Tryz.f118)) (.n (.n .e (some (Go.Proofs.Tryz.f374)) .e) (some (Go.Proofs.Tryz.f246)) .e)))) (some (Go.Proofs.Tryz.f14)) (.n (.n (.n (.n .e (some (Go.Proofs.Tryz.f142)) .e) (some (Go.Proofs.Tryz.f78)) (.n (.n .e (some (Go.Proofs.Tryz.f334)) .e) (some (Go.Proofs.Tryz.f206)) .e)) (some (Go.Proofs.Tryz.f46)) (.n (.n .e (some (Go.Proofs.Tryz.f174)) .e) none (.n .e (some (Go.Proofs.Tryz.f238)) .e))) (some (Go.Proofs.Tryz.f30)) (.n (.n (.n .e (some (Go.Proofs.Tryz.f158)) .e) (some (Go.Proofs.Tryz.f94)) (.n (.n .e (some (Go.Proofs.Tryz.f350)) .e) none .e)) (some (Go.Proofs.Tryz.f62)) (.n (.n (.n .e (some (Go.Proofs.Tryz.f318)) .e) (some (Go.Proofs.Tryz.f190)) .e) (some (Go.Proofs.Tryz.f126)) (.n (.n .e (some (Go.Proofs.Tryz.f382)) .e) (some (Go.Proofs.Tryz.f254)) .e))))))))
noncomputable def xtT:T EK:=(.n (.n (.n (.n .e none (.n (.n .e none (.n .e none (.n (.n .e (some (.turn .i32 1 0)) .e) none .e))) none .e)) none .e) none (.n .e none (.n (.n (.n .e none (.n .e none (.n (.n .e (some (.load .u32)) .e) none .e))) none (.n (.n (.n .e none (.n .e (some (.store .u32)) .e)) none .e) none .e)) none (.n .e none (.n .e (some (.pload)) (.n (.n .e (some (.add64)) .e) none .e)))))) none (.n (.n (.n (.n (.n (.n .e (some (.pstore)) .e) none .e) none .e) none (.n (.n (.n .e none (.n (.n .e (some (.add .i64)) .e) none .e)) none .e) none .e)) none .e) none (.n .e none (.n (.n (.n .e none (.n .e none (.n (.n .e (some (.turn .i32 0 1)) .e) none .e))) none .e) none .e))))
noncomputable def orcR (k:Nat) (args:List AV) (st:S):Option (AV×S) :=
 bif Nat.beq k 133 then
  match args with
  | [.sl id off 4 _] =>
   match st.h.get id with
   | some (.row l _ _ _)=>bif AV.beqs ((l.drop off).take 8) [.i .i64 0,.i .i64 0,.i .i64 4,.i .i64 0,.i .i64 4,.i .i64 4,.i .i64 0,.i .i64 4] then some (.agg [.i .i64 0,.i .i64 0],st) else none
   | _=>none
  | _=>none
 else none
noncomputable def tb:Tb:=⟨tiT,ftT,xtT,orcR,fun _ _=>none,fun _ _ _ _=>none⟩
end Go.Ex
namespace Go.Ex
open Go Go.RowKit
noncomputable def ovT {α:Type} (p:Nat→α→Bool) (i:Nat):Option α→Bool
 | some x=>p i x
 | none=>true
noncomputable def allT {α:Type} (p:Nat→α→Bool) (t:T α):(Nat→Nat)→Bool :=
 T.rec (motive:=fun _=>(Nat→Nat)→Bool) (fun _=>true) (fun _ v _ il ir g=>ovT p (g 0) v && (il (fun j=>g (2 * j+1)) && ir (fun j=>g (2 * j+2)))) t
theorem allT_ok {α:Type} {p:Nat→α→Bool}:∀ {t:T α} {g:Nat→Nat},allT p t g=true→∀ k v,t.get k=some v→p (g k) v=true:=by
 intro t
 induction t with
 | e=>intro g h k v hk;rw [T.get_e] at hk;cases hk
 | n l x r il ir =>
  intro g h k v hk
  change (ovT p (g 0) x && (allT p l (fun j=>g (2 * j+1)) && allT p r (fun j=>g (2 * j+2))))=true at h
  simp only [Bool.and_eq_true] at h
  obtain ⟨h1,h2,h3⟩:=h
  rw [T.get_n] at hk
  by_cases c0:k=0
  ·rw [if_pos c0] at hk;subst hk;rw [c0];exact h1
  ·rw [if_neg c0] at hk
   by_cases c1:k % 2=1
   ·rw [if_pos c1] at hk
    have:=il h2 _ _ hk
    have e:2 * (k / 2)+1=k:=by omega
    simpa [e] using this
   ·rw [if_neg c1] at hk
    have:=ir h3 _ _ hk
    have e:2 * (k / 2 - 1)+2=k:=by omega
    simpa [e] using this
end Go.Ex
namespace Go.Ex
open Go
set_option maxRecDepth 100000
noncomputable def forceN (n:Nat) (f:Nat→Bool):Bool:=match n with
 | 0=>f 0
 | j+1=>f (Nat.succ j)
theorem forceN_eq (n:Nat) (f:Nat→Bool):forceN n f=f n:=by cases n <;> rfl
def TK.isOth:TK→Bool
 | .oth=>true
 | _=>false
noncomputable def chk1 (t:Nat) (i:TI):Bool:=forceN t fun t=>chkT Go.Proofs.Tryz.prog t i && !i.kind.isOth
theorem tiAll:allT chk1 tiT (fun j=>j)=true:=by kernel_rfl
theorem ti_ok [Val] (t:Nat) (i:TI) (h:tiT.get t=some i):TOk Go.Proofs.Tryz.prog t i∧i.kind≠.oth:=by
 have:=allT_ok tiAll t i h
 unfold chk1 at this
 rw [forceN_eq] at this
 simp only [Bool.and_eq_true,Bool.not_eq_true'] at this
 refine ⟨chkT_ok this.1,fun hk=>?_⟩
 rw [hk] at this
 cases this.2
end Go.Ex
